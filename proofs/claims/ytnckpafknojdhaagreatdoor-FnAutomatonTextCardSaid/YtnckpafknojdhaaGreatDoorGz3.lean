/-
  The texts of this proof, joined (wip/merge.py): the calculus of slots, plain mathematics, walks.
-/
import Derived.Test.YtnckpafknojdhaaGreatDoorGz2
set_option linter.unusedSimpArgs false
set_option linter.unusedVariables false
namespace Go.Proofs.YtnckpafknojdhaaGreatDoor
open Go.RowKit
set_option maxRecDepth 100000 in
theorem l1Text_c (x : Int) (hx : 0 ≤ x ∧ x ≤ 100) (w0 : World) : Ret Tryz.prog 44 #[Value.int .i64 x] w0 (fun v w => v = .string (chr x) ∧ Ext w0 w) := by
  have E := Ext.refl w0
  refine Ret.of (args := [Value.int .i64 x]) Tryz.func44 rfl rfl rfl ?_
  rintro _ rfl
  show Cq _ _ _ _ [(0, Value.int .i64 x)] _
  refine Cq.seq ?_
  refine Cq.region ?_
  refine Sq.assign .plain rfl rfl ?_
  refine Sq.nil ?_
  refine Eq.next ?_
  refine Cq.seq ?_
  refine Cq.region ?_
  refine Sq.move .plain rfl rfl ?_
  refine Sq.add .plain rfl rfl rfl (by omega) ?_
  refine Sq.conv8 conv3_5 .plain rfl rfl (by omega) ?_
  refine Sq.lit sl22 rfl rfl .plain rfl rfl (one_cons rfl one_nil) (fun b1 w2 e3 hlo4 ho5 _ => ?_)
  replace ho5 := ho5 w0.heap.size (Nat.le_refl _)
  have hs7 := Below.size e3
  replace E := E.trans e3
  refine Sq.val .plain rfl rfl (Still.text1 und22 und8_22 und9 ho5 (by omega) rfl) ?_
  refine Sq.assign .plain rfl rfl ?_
  refine Sq.nil ?_
  refine Eq.next ?_
  refine Cq.ret ?_
  refine Eq.ret1 rfl rfl ?_
  exact ⟨rfl, E⟩
set_option maxRecDepth 100000 in
theorem fmtAl_c (al : Int) (w0 : World) : Ret Tryz.prog 19 #[Value.int .i64 al] w0 (fun v w => v = .string (fmtAl al) ∧ Ext w0 w) := by
  have E := Ext.refl w0
  refine Ret.of (args := [Value.int .i64 al]) Tryz.func19 rfl rfl rfl ?_
  rintro _ rfl
  show Cq _ _ _ _ [(0, Value.int .i64 al)] _
  refine Cq.seq ?_
  refine Cq.region ?_
  refine Sq.assign .plain rfl rfl ?_
  refine Sq.nil ?_
  refine Eq.next ?_
  refine Cq.seq ?_
  refine Cq.seq ?_
  refine Cq.region ?_
  refine Sq.move .plain rfl rfl ?_
  refine Sq.call fn21 .plain rfl rfl (l1Alphabet_c _ _) ?_
  rintro _ _ ⟨rfl, rfl⟩
  refine Sq.part (fun c1 => ?_) (fun c1 => ?_)
  · refine Sq.notT .plain rfl rfl ?_
    refine Sq.nil ?_
    refine Eq.next ?_
    refine Cq.els rfl ?_
    refine Cq.skip ?_
    refine Eq.next ?_
    refine Cq.seq ?_
    refine Cq.seq ?_
    refine Cq.region ?_
    refine Sq.move .plain rfl rfl ?_
    refine Sq.eql .plain rfl rfl rfl ?_
    refine Sq.part (fun c2 => ?_) (fun c2 => ?_)
    · refine Sq.nil ?_
      refine Eq.next ?_
      refine Cq.thn rfl ?_
      refine Cq.seq ?_
      refine Cq.region ?_
      refine Sq.assign .plain rfl rfl ?_
      refine Sq.nil ?_
      refine Eq.next ?_
      refine Cq.ret ?_
      refine Eq.pastRet ?_
      refine Eq.ret1 rfl rfl ?_
      exact ⟨by first | rw [fmtAl_bad (by omega)] | rw [fmtAl_zero (by omega)] | rw [fmtAl_good (by omega) (by omega) (k := k.toNat) (by omega)], E⟩
    refine Sq.nil ?_
    refine Eq.next ?_
    refine Cq.els rfl ?_
    refine Cq.skip ?_
    refine Eq.next ?_
    refine Cq.seq ?_
    refine Cq.region ?_
    refine Sq.assign .plain rfl rfl ?_
    refine Sq.nil ?_
    refine Eq.next ?_
    refine Cq.seq ?_
    refine Cq.region ?_
    refine Sq.move .plain rfl rfl ?_
    refine Sq.call fn23 .plain rfl rfl (l1Letters_c al (by omega) _) ?_
    rintro v3 w4 ⟨hl6, e5⟩
    have hs7 := Below.size E
    have hs8 := Below.size e5
    replace E := E.trans e5
    refine Sq.assign .plain rfl rfl ?_
    refine Sq.nil ?_
    refine Eq.next ?_
    refine Cq.seq ?_
    refine Cq.seq ?_
    refine Cq.region ?_
    refine Sq.assign .plain rfl rfl ?_
    refine Sq.nil ?_
    refine Eq.next ?_
    refine Cq.block ?_
    refine Cq.loop (fun nn w ls => ∃ (k : Int), ls = [(0, Value.int .i64 al), (3, Value.string (fmtTo al k.toNat)), (4, v3), (5, Value.int .i64 k)] ∧ (0 ≤ k ∧ k ≤ (letters al).length) ∧ Ext w0 w ∧ Own w w0.heap.size 3 v3 ((letters al).map (Value.int .i64)) ∧ nn = ((letters al).length - k).toNat) _ _ ⟨0, rfl, by omega, E, hl6, rfl⟩ (.cons rfl (.cons rfl (.cons rfl (.cons rfl (.nil))))) ?_
    rintro nn wl1 ls ⟨k, rfl, hk, E, hl6, rfl⟩
    have hs9 := Below.size E
    have hlet := letters_len6 al
    have hsz := fmtTo_size al k.toNat
    have hlt := letters_at al (k := k.toNat)
    refine Cq.seq ?_
    refine Cq.seq ?_
    refine Cq.region ?_
    refine Sq.move .plain rfl rfl ?_
    refine Sq.move .plain rfl rfl ?_
    refine Sq.lenInts (Own.row hl6) .plain rfl und36 rfl ?_
    refine Sq.lss .plain rfl rfl rfl ?_
    refine Sq.part (fun c10 => ?_) (fun c10 => ?_)
    · refine Sq.nil ?_
      refine Eq.next ?_
      refine Cq.thn rfl ?_
      refine Cq.skip ?_
      refine Eq.next ?_
      refine Cq.seq ?_
      refine Cq.block ?_
      refine Cq.region ?_
      refine Sq.move .plain rfl rfl ?_
      refine Sq.move .plain rfl rfl ?_
      refine Sq.move .plain rfl rfl ?_
      refine Sq.idxInts sl36 one3 (Own.row hl6) .plain rfl rfl rfl .plain rfl rfl (by omega) (by omega) ?_
      refine Sq.call fn44 .plain rfl rfl (l1Text_c ((letters al).getD k.toNat 0) (by (have := hlt (by omega); omega)) _) ?_
      rintro _ w12 ⟨rfl, e13⟩
      have hs14 := Below.size E
      have hs15 := Below.size e13
      replace E := E.trans e13
      replace hl6 := hl6.ext e13
      refine Sq.cat .plain rfl rfl rfl (by rw [chr_size]; omega) ?_
      refine Sq.assign .plain rfl rfl ?_
      refine Sq.nil ?_
      refine Eq.end ?_
      refine Eq.next ?_
      refine Cq.region ?_
      refine Sq.move .plain rfl rfl ?_
      refine Sq.add .plain rfl rfl rfl (by omega) ?_
      refine Sq.assign .plain rfl rfl ?_
      refine Sq.nil ?_
      have e1 := toNat_succ hk.1
      rw [← fmtTo_succ (by omega), ← e1]
      refine Eq.round _ _ ⟨k + 1, rfl, by omega, E, hl6, rfl⟩ (by omega) (.cons rfl (.cons rfl (.cons rfl (.cons rfl (.nil)))))
    refine Sq.nil ?_
    refine Eq.next ?_
    refine Cq.els rfl ?_
    refine Cq.exit ?_
    refine Eq.past ?_
    refine Eq.past ?_
    refine Eq.hit ?_
    refine Eq.next ?_
    refine Cq.seq ?_
    refine Cq.region ?_
    refine Sq.move .plain rfl rfl ?_
    refine Sq.assign .plain rfl rfl ?_
    refine Sq.nil ?_
    refine Eq.next ?_
    refine Cq.ret ?_
    refine Eq.ret1 rfl rfl ?_
    exact ⟨by first | rw [fmtAl_bad (by omega)] | rw [fmtAl_zero (by omega)] | rw [fmtAl_good (by omega) (by omega) (k := k.toNat) (by omega)], E⟩
  refine Sq.notF .plain rfl rfl ?_
  refine Sq.nil ?_
  refine Eq.next ?_
  refine Cq.thn rfl ?_
  refine Cq.seq ?_
  refine Cq.region ?_
  refine Sq.assign .plain rfl rfl ?_
  refine Sq.nil ?_
  refine Eq.next ?_
  refine Cq.ret ?_
  refine Eq.pastRet ?_
  refine Eq.ret1 rfl rfl ?_
  exact ⟨by first | rw [fmtAl_bad (by omega)] | rw [fmtAl_zero (by omega)] | rw [fmtAl_good (by omega) (by omega) (k := k.toNat) (by omega)], E⟩
set_option maxRecDepth 100000 in
theorem parseAl_c (s : ByteArray) (w0 : World) : Ret Tryz.prog 34 #[Value.string s] w0 (fun v w => (∃ n ok, v = .tuple #[.int .i64 n, .bool ok] ∧ 0 ≤ n ∧ n ≤ 63) ∧ Ext w0 w) := by
  have E := Ext.refl w0
  refine Ret.of (args := [Value.string s]) Tryz.func34 rfl rfl rfl ?_
  rintro _ rfl
  show Cq _ _ _ _ [(0, Value.string s)] _
  refine Cq.seq ?_
  refine Cq.region ?_
  refine Sq.assign .plain rfl rfl ?_
  refine Sq.assign .plain rfl rfl ?_
  refine Sq.nil ?_
  refine Eq.next ?_
  refine Cq.seq ?_
  refine Cq.seq ?_
  refine Cq.region ?_
  refine Sq.assign .plain rfl rfl ?_
  refine Sq.nil ?_
  refine Eq.next ?_
  refine Cq.block ?_
  refine Cq.loop (fun nn w ls => ∃ (k : Int), ls = [(0, Value.string s), (4, Value.int .i64 k)] ∧ (0 ≤ k ∧ k ≤ 64) ∧ Ext w0 w ∧ nn = (64 - k).toNat) _ _ ⟨0, rfl, by omega, E, rfl⟩ (.cons rfl (.cons rfl (.nil))) ?_
  rintro nn wl1 ls ⟨k, rfl, hk, E, rfl⟩
  have hs1 := Below.size E
  refine Cq.seq ?_
  refine Cq.seq ?_
  refine Cq.region ?_
  refine Sq.move .plain rfl rfl ?_
  refine Sq.leq .plain rfl rfl rfl ?_
  refine Sq.part (fun c2 => ?_) (fun c2 => ?_)
  · refine Sq.nil ?_
    refine Eq.next ?_
    refine Cq.thn rfl ?_
    refine Cq.skip ?_
    refine Eq.next ?_
    refine Cq.seq ?_
    refine Cq.block ?_
    refine Cq.seq ?_
    refine Cq.region ?_
    refine Sq.move .plain rfl rfl ?_
    refine Sq.call fn19 .plain rfl rfl (fmtAl_c k _) ?_
    rintro _ w4 ⟨rfl, e5⟩
    have hs6 := Below.size E
    have hs7 := Below.size e5
    replace E := E.trans e5
    refine Sq.move .plain rfl rfl ?_
    refine Sq.eqlS .plain rfl rfl rfl ?_
    refine Sq.part (fun c8 => ?_) (fun c8 => ?_)
    · refine Sq.nil ?_
      refine Eq.next ?_
      refine Cq.thn rfl ?_
      refine Cq.seq ?_
      refine Cq.region ?_
      refine Sq.move .plain rfl rfl ?_
      refine Sq.assign .plain rfl rfl ?_
      refine Sq.assign .plain rfl rfl ?_
      refine Sq.nil ?_
      refine Eq.next ?_
      refine Cq.ret ?_
      refine Eq.outRet ?_
      refine Eq.pastRet ?_
      refine Eq.pastRet ?_
      refine Eq.outRet ?_
      refine Eq.pastRet ?_
      refine Eq.ret2 rfl rfl rfl ?_
      exact ⟨⟨_, _, rfl, by omega⟩, E⟩
    refine Sq.nil ?_
    refine Eq.next ?_
    refine Cq.els rfl ?_
    refine Cq.skip ?_
    refine Eq.end ?_
    refine Eq.next ?_
    refine Cq.region ?_
    refine Sq.move .plain rfl rfl ?_
    refine Sq.add .plain rfl rfl rfl (by omega) ?_
    refine Sq.assign .plain rfl rfl ?_
    refine Sq.nil ?_
    refine Eq.round _ _ ⟨k + 1, rfl, by omega, E, rfl⟩ (by omega) (.cons rfl (.cons rfl (.nil)))
  refine Sq.nil ?_
  refine Eq.next ?_
  refine Cq.els rfl ?_
  refine Cq.exit ?_
  refine Eq.past ?_
  refine Eq.past ?_
  refine Eq.hit ?_
  refine Eq.next ?_
  refine Cq.seq ?_
  refine Cq.region ?_
  refine Sq.assign .plain rfl rfl ?_
  refine Sq.assign .plain rfl rfl ?_
  refine Sq.nil ?_
  refine Eq.next ?_
  refine Cq.ret ?_
  refine Eq.ret2 rfl rfl rfl ?_
  exact ⟨⟨_, _, rfl, by omega⟩, E⟩
set_option maxRecDepth 100000 in
theorem dec_c (n : Int) (hn : 0 ≤ n ∧ n ≤ 1000000) (w0 : World) : Ret Tryz.prog 20 #[Value.int .i64 n] w0 (fun v w => (∃ s, v = .string s ∧ (s.size : Int) ≤ n + 1) ∧ Ext w0 w) := by
  have E := Ext.refl w0
  refine Ret.of (args := [Value.int .i64 n]) Tryz.func20 rfl rfl rfl ?_
  rintro _ rfl
  show Cq _ _ _ _ [(0, Value.int .i64 n)] _
  refine Cq.seq ?_
  refine Cq.region ?_
  refine Sq.assign .plain rfl rfl ?_
  refine Sq.nil ?_
  refine Eq.next ?_
  refine Cq.seq ?_
  refine Cq.seq ?_
  refine Cq.region ?_
  refine Sq.move .plain rfl rfl ?_
  refine Sq.lss .plain rfl rfl rfl ?_
  refine Sq.isF (by omega) ?_
  refine Sq.nil ?_
  refine Eq.next ?_
  refine Cq.els rfl ?_
  refine Cq.skip ?_
  refine Eq.next ?_
  refine Cq.seq ?_
  refine Cq.seq ?_
  refine Cq.region ?_
  refine Sq.move .plain rfl rfl ?_
  refine Sq.lss .plain rfl rfl rfl ?_
  refine Sq.isF (by omega) ?_
  refine Sq.nil ?_
  refine Eq.next ?_
  refine Cq.els rfl ?_
  refine Cq.skip ?_
  refine Eq.next ?_
  refine Cq.seq ?_
  refine Cq.region ?_
  refine Sq.assign .plain rfl rfl ?_
  refine Sq.nil ?_
  refine Eq.next ?_
  refine Cq.seq ?_
  refine Cq.block ?_
  refine Cq.loop (fun nn w ls => ∃ (m : Int), ∃ (t : ByteArray), ls = [(0, Value.int .i64 m), (3, Value.string t)] ∧ (0 ≤ m ∧ m ≤ n ∧ (t.size : Int) + m ≤ n) ∧ Ext w0 w ∧ nn = m.toNat) _ _ ⟨_, _, rfl, ⟨by omega, by omega, by show ((0 : Nat) : Int) + n ≤ n; omega⟩, E, rfl⟩ (.cons rfl (.cons rfl (.nil))) ?_
  rintro nn wl1 ls ⟨m, t, rfl, hm, E, rfl⟩
  have hs1 := Below.size E
  refine Cq.seq ?_
  refine Cq.seq ?_
  refine Cq.region ?_
  refine Sq.move .plain rfl rfl ?_
  refine Sq.gtr .plain rfl rfl rfl ?_
  refine Sq.part (fun c2 => ?_) (fun c2 => ?_)
  · refine Sq.nil ?_
    refine Eq.next ?_
    refine Cq.thn rfl ?_
    refine Cq.skip ?_
    refine Eq.next ?_
    refine Cq.block ?_
    refine Cq.seq ?_
    refine Cq.region ?_
    refine Sq.move .plain rfl rfl ?_
    refine Sq.rem .plain rfl rfl rfl (by omega) ?_
    refine Sq.add .plain rfl rfl rfl (by omega) ?_
    refine Sq.conv8 conv3_5 .plain rfl rfl (by omega) ?_
    refine Sq.lit sl22 rfl rfl .plain rfl rfl (one_cons rfl one_nil) (fun b3 w4 e5 hlo6 ho7 _ => ?_)
    replace ho7 := ho7 wl1.heap.size (Nat.le_refl _)
    have hs9 := Below.size e5
    replace E := E.trans e5
    refine Sq.val .plain rfl rfl (Still.text1 und22 und8_22 und9 ho7 (by omega) rfl) ?_
    refine Sq.move .plain rfl rfl ?_
    refine Sq.cat .plain rfl rfl rfl (by show (1 + t.size : Nat) ≤ _; omega) ?_
    refine Sq.assign .plain rfl rfl ?_
    refine Sq.nil ?_
    refine Eq.next ?_
    refine Cq.region ?_
    refine Sq.move .plain rfl rfl ?_
    refine Sq.quo .plain rfl rfl rfl (by omega) ?_
    refine Sq.assign .plain rfl rfl ?_
    refine Sq.nil ?_
    refine Eq.end ?_
    refine Eq.round _ _ ⟨_, _, rfl, by rw [size_cat]; refine ⟨by omega, by omega, ?_⟩; show ((1 + t.size : Nat) : Int) + _ ≤ _; omega, E, rfl⟩ (by omega) (.cons rfl (.cons rfl (.nil)))
  refine Sq.nil ?_
  refine Eq.next ?_
  refine Cq.els rfl ?_
  refine Cq.exit ?_
  refine Eq.past ?_
  refine Eq.past ?_
  refine Eq.hit ?_
  refine Eq.next ?_
  refine Cq.seq ?_
  refine Cq.region ?_
  refine Sq.move .plain rfl rfl ?_
  refine Sq.add .plain rfl rfl rfl (by omega) ?_
  refine Sq.conv8 conv3_5 .plain rfl rfl (by omega) ?_
  refine Sq.lit sl22 rfl rfl .plain rfl rfl (one_cons rfl one_nil) (fun b10 w11 e12 hlo13 ho14 _ => ?_)
  replace ho14 := ho14 wl1.heap.size (Nat.le_refl _)
  have hs16 := Below.size e12
  replace E := E.trans e12
  refine Sq.val .plain rfl rfl (Still.text1 und22 und8_22 und9 ho14 (by omega) rfl) ?_
  refine Sq.move .plain rfl rfl ?_
  refine Sq.cat .plain rfl rfl rfl (by show (1 + t.size : Nat) ≤ _; omega) ?_
  refine Sq.assign .plain rfl rfl ?_
  refine Sq.nil ?_
  refine Eq.next ?_
  refine Cq.ret ?_
  refine Eq.ret1 rfl rfl ?_
  exact ⟨⟨_, rfl, by rw [size_cat]; show ((1 + t.size : Nat) : Int) ≤ _; omega⟩, E⟩
set_option maxRecDepth 100000 in
theorem cut_c (s : ByteArray) (c : Int) (hs : s.size ≤ 1000000) (w0 : World) : Ret Tryz.prog 33 #[Value.string s, Value.int .u8 c] w0 (fun v w => (∃ xs : List ByteArray, Own w w0.heap.size 9 v (xs.map Value.string) ∧ (1 ≤ xs.length ∧ xs.length ≤ s.size + 1) ∧ ∀ x ∈ xs, x.size ≤ s.size) ∧ Ext w0 w) := by
  have E := Ext.refl w0
  refine Ret.of (args := [Value.string s, Value.int .u8 c]) Tryz.func33 rfl rfl rfl ?_
  rintro _ rfl
  show Cq _ _ _ _ [(0, Value.string s), (1, Value.int .u8 c)] _
  refine Cq.seq ?_
  refine Cq.region ?_
  refine Sq.assign .plain rfl rfl ?_
  refine Sq.nil ?_
  refine Eq.next ?_
  refine Cq.seq ?_
  refine Cq.region ?_
  refine Sq.lit sl37 rfl rfl .plain rfl rfl one_nil (fun b1 w2 e3 hlo4 ho5 _ => ?_)
  replace ho5 := ho5 w0.heap.size (Nat.le_refl _)
  have hs7 := Below.size e3
  replace E := E.trans e3
  refine Sq.assign .plain rfl rfl ?_
  refine Sq.nil ?_
  refine Eq.next ?_
  refine Cq.seq ?_
  refine Cq.region ?_
  refine Sq.assign .plain rfl rfl ?_
  refine Sq.nil ?_
  refine Eq.next ?_
  refine Cq.seq ?_
  refine Cq.seq ?_
  refine Cq.region ?_
  refine Sq.assign .plain rfl rfl ?_
  refine Sq.nil ?_
  refine Eq.next ?_
  refine Cq.block ?_
  refine Cq.loop (fun nn w ls => ∃ (i : Int), ∃ (q : Int), ∃ (v : Value), ∃ (xs : List ByteArray), ls = [(0, Value.string s), (1, Value.int .u8 c), (5, v), (6, Value.int .i64 q), (7, Value.int .i64 i)] ∧ (0 ≤ q ∧ q ≤ i ∧ i ≤ s.size + 1) ∧ Own w w0.heap.size 9 v (xs.map Value.string) ∧ ((xs.length : Int) ≤ i ∧ (i = s.size + 1 → 1 ≤ xs.length) ∧ ∀ x ∈ xs, x.size ≤ s.size) ∧ Ext w0 w ∧ nn = ((s.size : Int) + 1 - i).toNat) _ _ ⟨0, 0, _, [], rfl, by omega, Own.mono ho5 (by omega), ⟨by simp, by intro h; omega, by simp⟩, E, rfl⟩ (.cons rfl (.cons rfl (.cons rfl (.cons rfl (.cons rfl (.nil)))))) ?_
  rintro nn wl1 ls ⟨i, q, v, xs, rfl, hi, ho, hl, E, rfl⟩
  have hs8 := Below.size E
  refine Cq.seq ?_
  refine Cq.seq ?_
  refine Cq.region ?_
  refine Sq.move .plain rfl rfl ?_
  refine Sq.move .plain rfl rfl ?_
  refine Sq.lenStr .plain rfl und9 rfl ?_
  refine Sq.leq .plain rfl rfl rfl ?_
  refine Sq.part (fun c9 => ?_) (fun c9 => ?_)
  · refine Sq.nil ?_
    refine Eq.next ?_
    refine Cq.thn rfl ?_
    refine Cq.skip ?_
    refine Eq.next ?_
    refine Cq.seq ?_
    refine Cq.block ?_
    refine Cq.seq ?_
    refine Cq.region ?_
    refine Sq.move .plain rfl rfl ?_
    refine Sq.move .plain rfl rfl ?_
    refine Sq.lenStr .plain rfl und9 rfl ?_
    refine Sq.eql .plain rfl rfl rfl ?_
    refine Sq.part (fun c10 => ?_) (fun c10 => ?_)
    · refine Sq.move .plain rfl rfl ?_
      refine Sq.off rfl rfl rfl rfl rfl rfl ?_
      refine Sq.off rfl rfl rfl rfl rfl rfl ?_
      refine Sq.off rfl rfl rfl rfl rfl rfl ?_
      refine Sq.off rfl rfl rfl rfl rfl rfl ?_
      refine Sq.off rfl rfl rfl rfl rfl rfl ?_
      refine Sq.pickT .plain rfl rfl rfl ?_
      refine Sq.nil ?_
      refine Eq.next ?_
      refine Cq.thn rfl ?_
      refine Cq.seq ?_
      refine Cq.region ?_
      refine Sq.move .plain rfl rfl ?_
      refine Sq.move .plain rfl rfl ?_
      refine Sq.move .plain rfl rfl ?_
      refine Sq.move .plain rfl rfl ?_
      refine Sq.val .plain rfl rfl (Still.cutLH und9 rfl rfl rfl (by omega)) ?_
      refine Sq.app1 sl37 ho (by omega) (by simp; omega) .plain rfl rfl rfl rfl rfl rfl rfl (fun v11 w12 ho14 g13 _ => ?_)
      have hs15 := g13.size
      replace E := E.owned ho g13 (by omega)
      refine Sq.assign .plain rfl rfl ?_
      refine Sq.nil ?_
      refine Eq.next ?_
      refine Cq.region ?_
      refine Sq.move .plain rfl rfl ?_
      refine Sq.add .plain rfl rfl rfl (by omega) ?_
      refine Sq.assign .plain rfl rfl ?_
      refine Sq.nil ?_
      refine Eq.end ?_
      refine Eq.next ?_
      refine Cq.region ?_
      refine Sq.move .plain rfl rfl ?_
      refine Sq.add .plain rfl rfl rfl (by omega) ?_
      refine Sq.assign .plain rfl rfl ?_
      refine Sq.nil ?_
      refine Eq.round _ _ ⟨i + 1, _, _, _, rfl, by omega, Own.snocS ho14, ⟨by simp; omega, by intro h; simp, all_app hl.2.2 (size_cut s)⟩, E, rfl⟩ (by omega) (.cons rfl (.cons rfl (.cons rfl (.cons rfl (.cons rfl (.nil))))))
    refine Sq.move .plain rfl rfl ?_
    refine Sq.move (.met rfl rfl rfl) rfl rfl ?_
    refine Sq.move (.met rfl rfl rfl) rfl rfl ?_
    refine Sq.idxStr (.met rfl rfl rfl) rfl und9 rfl rfl (by omega) (str_at (by omega)) ?_
    refine Sq.move (.met rfl rfl rfl) rfl rfl ?_
    refine Sq.eql (.met rfl rfl rfl) rfl rfl rfl ?_
    refine Sq.part (fun c17 => ?_) (fun c17 => ?_)
    · refine Sq.pickF .plain rfl rfl rfl ?_
      refine Sq.nil ?_
      refine Eq.next ?_
      refine Cq.thn rfl ?_
      refine Cq.seq ?_
      refine Cq.region ?_
      refine Sq.move .plain rfl rfl ?_
      refine Sq.move .plain rfl rfl ?_
      refine Sq.move .plain rfl rfl ?_
      refine Sq.move .plain rfl rfl ?_
      refine Sq.val .plain rfl rfl (Still.cutLH und9 rfl rfl rfl (by omega)) ?_
      refine Sq.app1 sl37 ho (by omega) (by simp; omega) .plain rfl rfl rfl rfl rfl rfl rfl (fun v18 w19 ho21 g20 _ => ?_)
      have hs22 := g20.size
      replace E := E.owned ho g20 (by omega)
      refine Sq.assign .plain rfl rfl ?_
      refine Sq.nil ?_
      refine Eq.next ?_
      refine Cq.region ?_
      refine Sq.move .plain rfl rfl ?_
      refine Sq.add .plain rfl rfl rfl (by omega) ?_
      refine Sq.assign .plain rfl rfl ?_
      refine Sq.nil ?_
      refine Eq.end ?_
      refine Eq.next ?_
      refine Cq.region ?_
      refine Sq.move .plain rfl rfl ?_
      refine Sq.add .plain rfl rfl rfl (by omega) ?_
      refine Sq.assign .plain rfl rfl ?_
      refine Sq.nil ?_
      refine Eq.round _ _ ⟨i + 1, _, _, _, rfl, by omega, Own.snocS ho21, ⟨by simp; omega, by intro h; simp, all_app hl.2.2 (size_cut s)⟩, E, rfl⟩ (by omega) (.cons rfl (.cons rfl (.cons rfl (.cons rfl (.cons rfl (.nil))))))
    refine Sq.pickF .plain rfl rfl rfl ?_
    refine Sq.nil ?_
    refine Eq.next ?_
    refine Cq.els rfl ?_
    refine Cq.skip ?_
    refine Eq.end ?_
    refine Eq.next ?_
    refine Cq.region ?_
    refine Sq.move .plain rfl rfl ?_
    refine Sq.add .plain rfl rfl rfl (by omega) ?_
    refine Sq.assign .plain rfl rfl ?_
    refine Sq.nil ?_
    refine Eq.round _ _ ⟨i + 1, _, _, _, rfl, by omega, ho, ⟨by omega, by intro h; omega, hl.2.2⟩, E, rfl⟩ (by omega) (.cons rfl (.cons rfl (.cons rfl (.cons rfl (.cons rfl (.nil))))))
  refine Sq.nil ?_
  refine Eq.next ?_
  refine Cq.els rfl ?_
  refine Cq.exit ?_
  refine Eq.past ?_
  refine Eq.past ?_
  refine Eq.hit ?_
  refine Eq.next ?_
  refine Cq.seq ?_
  refine Cq.region ?_
  refine Sq.move .plain rfl rfl ?_
  refine Sq.assign .plain rfl rfl ?_
  refine Sq.nil ?_
  refine Eq.next ?_
  refine Cq.ret ?_
  refine Eq.ret1 rfl rfl ?_
  exact ⟨⟨xs, ho, by omega, hl.2.2⟩, E⟩
set_option maxRecDepth 100000 in
theorem num10_c (s : ByteArray) (hs : s.size ≤ 1000000) (w0 : World) : Ret Tryz.prog 53 #[Value.string s] w0 (fun v w => (∃ n ok, v = .tuple #[.int .i64 n, .bool ok] ∧ -1000000000000000000 ≤ n ∧ n ≤ 1000000000000000000) ∧ w0 = w) := by
  refine Ret.of (args := [Value.string s]) Tryz.func53 rfl rfl rfl ?_
  rintro _ rfl
  show Cq _ _ _ _ [(0, Value.string s)] _
  refine Cq.seq ?_
  refine Cq.region ?_
  refine Sq.assign .plain rfl rfl ?_
  refine Sq.assign .plain rfl rfl ?_
  refine Sq.nil ?_
  refine Eq.next ?_
  refine Cq.seq ?_
  refine Cq.region ?_
  refine Sq.move .plain rfl rfl ?_
  refine Sq.lenStr .plain rfl und9 rfl ?_
  refine Sq.gtr .plain rfl rfl rfl ?_
  refine Sq.part (fun c1 => ?_) (fun c1 => ?_)
  · refine Sq.move .plain rfl rfl ?_
    refine Sq.move (.met rfl rfl rfl) rfl rfl ?_
    refine Sq.idxStr (.met rfl rfl rfl) rfl und9 rfl rfl (by omega) (str_at (by omega)) ?_
    refine Sq.eql (.met rfl rfl rfl) rfl rfl rfl ?_
    refine Sq.part (fun c3 => ?_) (fun c3 => ?_)
    · refine Sq.pickT .plain rfl rfl rfl ?_
      refine Sq.assign .plain rfl rfl ?_
      refine Sq.nil ?_
      refine Eq.next ?_
      refine Cq.seq ?_
      refine Cq.seq ?_
      refine Cq.region ?_
      refine Sq.move .plain rfl rfl ?_
      refine Sq.nil ?_
      refine Eq.next ?_
      refine Cq.thn rfl ?_
      refine Cq.region ?_
      refine Sq.move .plain rfl rfl ?_
      refine Sq.val .plain rfl rfl (Still.cutL und9 rfl rfl (by omega)) ?_
      refine Sq.assign .plain rfl rfl ?_
      refine Sq.nil ?_
      refine Eq.next ?_
      refine Cq.seq ?_
      refine Cq.seq ?_
      refine Cq.region ?_
      have hcut : (((s.extract (1 : Int).toNat s.size)).size : Int) = s.size - 1 := by rw [ByteArray.size_extract]; omega
      refine Sq.move .plain rfl rfl ?_
      refine Sq.lenStr .plain rfl und9 rfl ?_
      refine Sq.eql .plain rfl rfl rfl ?_
      refine Sq.part (fun c4 => ?_) (fun c4 => ?_)
      · refine Sq.move .plain rfl rfl ?_
        refine Sq.off rfl rfl rfl rfl rfl rfl ?_
        refine Sq.off rfl rfl rfl rfl rfl rfl ?_
        refine Sq.off rfl rfl rfl rfl rfl rfl ?_
        refine Sq.pickT .plain rfl rfl rfl ?_
        refine Sq.move .plain rfl rfl ?_
        refine Sq.off rfl rfl rfl rfl rfl rfl ?_
        refine Sq.off rfl rfl rfl rfl rfl rfl ?_
        refine Sq.off rfl rfl rfl rfl rfl rfl ?_
        refine Sq.off rfl rfl rfl rfl rfl rfl ?_
        refine Sq.offU rfl rfl rfl rfl rfl rfl ?_
        refine Sq.offU rfl rfl rfl rfl rfl rfl ?_
        refine Sq.offU rfl rfl rfl rfl rfl rfl ?_
        refine Sq.offU rfl rfl rfl rfl rfl rfl ?_
        refine Sq.offU rfl rfl rfl rfl rfl rfl ?_
        refine Sq.offU rfl rfl rfl rfl rfl rfl ?_
        refine Sq.off rfl rfl rfl rfl rfl rfl ?_
        refine Sq.pickT .plain rfl rfl rfl ?_
        refine Sq.nil ?_
        refine Eq.next ?_
        refine Cq.thn rfl ?_
        refine Cq.seq ?_
        refine Cq.region ?_
        refine Sq.assign .plain rfl rfl ?_
        refine Sq.assign .plain rfl rfl ?_
        refine Sq.nil ?_
        refine Eq.next ?_
        refine Cq.ret ?_
        refine Eq.pastRet ?_
        refine Eq.ret2 rfl rfl rfl ?_
        exact ⟨⟨_, _, rfl, by omega⟩, rfl⟩
      refine Sq.move .plain rfl rfl ?_
      refine Sq.move (.met rfl rfl rfl) rfl rfl ?_
      refine Sq.lenStr (.met rfl rfl rfl) rfl und9 rfl ?_
      refine Sq.gtr (.met rfl rfl rfl) rfl rfl rfl ?_
      refine Sq.part (fun c5 => ?_) (fun c5 => ?_)
      · refine Sq.pickF .plain rfl rfl rfl ?_
        refine Sq.move .plain rfl rfl ?_
        refine Sq.off rfl rfl rfl rfl rfl rfl ?_
        refine Sq.off rfl rfl rfl rfl rfl rfl ?_
        refine Sq.off rfl rfl rfl rfl rfl rfl ?_
        refine Sq.off rfl rfl rfl rfl rfl rfl ?_
        refine Sq.offU rfl rfl rfl rfl rfl rfl ?_
        refine Sq.offU rfl rfl rfl rfl rfl rfl ?_
        refine Sq.offU rfl rfl rfl rfl rfl rfl ?_
        refine Sq.offU rfl rfl rfl rfl rfl rfl ?_
        refine Sq.offU rfl rfl rfl rfl rfl rfl ?_
        refine Sq.offU rfl rfl rfl rfl rfl rfl ?_
        refine Sq.off rfl rfl rfl rfl rfl rfl ?_
        refine Sq.pickT .plain rfl rfl rfl ?_
        refine Sq.nil ?_
        refine Eq.next ?_
        refine Cq.thn rfl ?_
        refine Cq.seq ?_
        refine Cq.region ?_
        refine Sq.assign .plain rfl rfl ?_
        refine Sq.assign .plain rfl rfl ?_
        refine Sq.nil ?_
        refine Eq.next ?_
        refine Cq.ret ?_
        refine Eq.pastRet ?_
        refine Eq.ret2 rfl rfl rfl ?_
        exact ⟨⟨_, _, rfl, by omega⟩, rfl⟩
      refine Sq.pickF .plain rfl rfl rfl ?_
      refine Sq.move .plain rfl rfl ?_
      refine Sq.move (.met rfl rfl rfl) rfl rfl ?_
      refine Sq.idxStr (.met rfl rfl rfl) rfl und9 rfl rfl (by omega) (str_at (by omega)) ?_
      refine Sq.eql (.met rfl rfl rfl) rfl rfl rfl ?_
      refine Sq.part (fun c7 => ?_) (fun c7 => ?_)
      · refine Sq.move (.met rfl rfl rfl) rfl rfl ?_
        refine Sq.move (.met rfl rfl rfl) rfl rfl ?_
        refine Sq.lenStr (.met rfl rfl rfl) rfl und9 rfl ?_
        refine Sq.gtr (.met rfl rfl rfl) rfl rfl rfl ?_
        refine Sq.part (fun c8 => ?_) (fun c8 => ?_)
        · refine Sq.move (.met rfl rfl rfl) rfl rfl ?_
          refine Sq.off rfl rfl rfl rfl rfl rfl ?_
          refine Sq.pickT (.met rfl rfl rfl) rfl rfl rfl ?_
          refine Sq.pickT (.met rfl rfl rfl) rfl rfl rfl ?_
          refine Sq.pickF .plain rfl rfl rfl ?_
          refine Sq.nil ?_
          refine Eq.next ?_
          refine Cq.thn rfl ?_
          refine Cq.seq ?_
          refine Cq.region ?_
          refine Sq.assign .plain rfl rfl ?_
          refine Sq.assign .plain rfl rfl ?_
          refine Sq.nil ?_
          refine Eq.next ?_
          refine Cq.ret ?_
          refine Eq.pastRet ?_
          refine Eq.ret2 rfl rfl rfl ?_
          exact ⟨⟨_, _, rfl, by omega⟩, rfl⟩
        refine Sq.move (.met rfl rfl rfl) rfl rfl ?_
        refine Sq.move (.met rfl rfl rfl) rfl rfl ?_
        refine Sq.pickF (.met rfl rfl rfl) rfl rfl rfl ?_
        refine Sq.pickT (.met rfl rfl rfl) rfl rfl rfl ?_
        refine Sq.pickF .plain rfl rfl rfl ?_
        refine Sq.nil ?_
        refine Eq.next ?_
        refine Cq.thn rfl ?_
        refine Cq.seq ?_
        refine Cq.region ?_
        refine Sq.assign .plain rfl rfl ?_
        refine Sq.assign .plain rfl rfl ?_
        refine Sq.nil ?_
        refine Eq.next ?_
        refine Cq.ret ?_
        refine Eq.pastRet ?_
        refine Eq.ret2 rfl rfl rfl ?_
        exact ⟨⟨_, _, rfl, by omega⟩, rfl⟩
      refine Sq.move (.met rfl rfl rfl) rfl rfl ?_
      refine Sq.off rfl rfl rfl rfl rfl rfl ?_
      refine Sq.off rfl rfl rfl rfl rfl rfl ?_
      refine Sq.off rfl rfl rfl rfl rfl rfl ?_
      refine Sq.off rfl rfl rfl rfl rfl rfl ?_
      refine Sq.offU rfl rfl rfl rfl rfl rfl ?_
      refine Sq.off rfl rfl rfl rfl rfl rfl ?_
      refine Sq.pickF (.met rfl rfl rfl) rfl rfl rfl ?_
      refine Sq.pickF .plain rfl rfl rfl ?_
      refine Sq.nil ?_
      refine Eq.next ?_
      refine Cq.els rfl ?_
      refine Cq.skip ?_
      refine Eq.next ?_
      refine Cq.seq ?_
      refine Cq.region ?_
      refine Sq.assign .plain rfl rfl ?_
      refine Sq.nil ?_
      refine Eq.next ?_
      refine Cq.seq ?_
      refine Cq.seq ?_
      refine Cq.region ?_
      refine Sq.assign .plain rfl rfl ?_
      refine Sq.nil ?_
      refine Eq.next ?_
      refine Cq.block ?_
      refine Cq.loop (fun nn w ls => ∃ (k : Int), ∃ (n : Int), ls = [(0, Value.string ((s.extract (1 : Int).toNat s.size))), (4, Value.bool true), (5, Value.int .i64 n), (6, Value.int .i64 k)] ∧ w0 = w ∧ (0 ≤ k ∧ k ≤ ((s.extract (1 : Int).toNat s.size)).size) ∧ (((s.extract (1 : Int).toNat s.size)).size ≤ 17) ∧ (0 ≤ n ∧ n < 10 ^ k.toNat) ∧ nn = ((((s.extract (1 : Int).toNat s.size)).size : Int) - k).toNat) _ _ ⟨0, 0, rfl, rfl, by omega, by omega, by decide, rfl⟩ (.cons rfl (.cons rfl (.cons rfl (.cons rfl (.nil))))) ?_
      rintro n1 w ls ⟨k, n, rfl, rfl, hk, hz, hn, rfl⟩
      have hp := pow_small (k := k.toNat) (by omega)
      refine Cq.seq ?_
      refine Cq.seq ?_
      refine Cq.region ?_
      refine Sq.move .plain rfl rfl ?_
      refine Sq.move .plain rfl rfl ?_
      refine Sq.lenStr .plain rfl und9 rfl ?_
      refine Sq.lss .plain rfl rfl rfl ?_
      refine Sq.part (fun c9 => ?_) (fun c9 => ?_)
      · refine Sq.nil ?_
        refine Eq.next ?_
        refine Cq.thn rfl ?_
        refine Cq.skip ?_
        refine Eq.next ?_
        refine Cq.seq ?_
        refine Cq.block ?_
        refine Cq.seq ?_
        refine Cq.seq ?_
        refine Cq.region ?_
        refine Sq.move .plain rfl rfl ?_
        refine Sq.move .plain rfl rfl ?_
        refine Sq.idxStr .plain rfl und9 rfl rfl (by omega) (str_at (by omega)) ?_
        refine Sq.lss .plain rfl rfl rfl ?_
        refine Sq.part (fun c11 => ?_) (fun c11 => ?_)
        · refine Sq.move .plain rfl rfl ?_
          refine Sq.off rfl rfl rfl rfl rfl rfl ?_
          refine Sq.off rfl rfl rfl rfl rfl rfl ?_
          refine Sq.off rfl rfl rfl rfl rfl rfl ?_
          refine Sq.off rfl rfl rfl rfl rfl rfl ?_
          refine Sq.pickT .plain rfl rfl rfl ?_
          refine Sq.nil ?_
          refine Eq.next ?_
          refine Cq.thn rfl ?_
          refine Cq.seq ?_
          refine Cq.region ?_
          refine Sq.assign .plain rfl rfl ?_
          refine Sq.assign .plain rfl rfl ?_
          refine Sq.nil ?_
          refine Eq.next ?_
          refine Cq.ret ?_
          refine Eq.pastRet ?_
          refine Eq.outRet ?_
          refine Eq.pastRet ?_
          refine Eq.pastRet ?_
          refine Eq.outRet ?_
          refine Eq.pastRet ?_
          refine Eq.ret2 rfl rfl rfl ?_
          exact ⟨⟨_, _, rfl, by omega⟩, rfl⟩
        refine Sq.move .plain rfl rfl ?_
        refine Sq.move (.met rfl rfl rfl) rfl rfl ?_
        refine Sq.move (.met rfl rfl rfl) rfl rfl ?_
        refine Sq.idxStr (.met rfl rfl rfl) rfl und9 rfl rfl (by omega) (str_at (by omega)) ?_
        refine Sq.gtr (.met rfl rfl rfl) rfl rfl rfl ?_
        refine Sq.part (fun c13 => ?_) (fun c13 => ?_)
        · refine Sq.pickF .plain rfl rfl rfl ?_
          refine Sq.nil ?_
          refine Eq.next ?_
          refine Cq.thn rfl ?_
          refine Cq.seq ?_
          refine Cq.region ?_
          refine Sq.assign .plain rfl rfl ?_
          refine Sq.assign .plain rfl rfl ?_
          refine Sq.nil ?_
          refine Eq.next ?_
          refine Cq.ret ?_
          refine Eq.pastRet ?_
          refine Eq.outRet ?_
          refine Eq.pastRet ?_
          refine Eq.pastRet ?_
          refine Eq.outRet ?_
          refine Eq.pastRet ?_
          refine Eq.ret2 rfl rfl rfl ?_
          exact ⟨⟨_, _, rfl, by omega⟩, rfl⟩
        refine Sq.pickF .plain rfl rfl rfl ?_
        refine Sq.nil ?_
        refine Eq.next ?_
        refine Cq.els rfl ?_
        refine Cq.skip ?_
        refine Eq.next ?_
        refine Cq.region ?_
        refine Sq.move .plain rfl rfl ?_
        refine Sq.mul .plain rfl rfl rfl (by omega) ?_
        refine Sq.move .plain rfl rfl ?_
        refine Sq.move .plain rfl rfl ?_
        refine Sq.idxStr .plain rfl und9 rfl rfl (by omega) (str_at (by omega)) ?_
        refine Sq.sub8 .plain rfl rfl rfl (by omega) ?_
        refine Sq.conv conv5_3 .plain rfl rfl (by omega) ?_
        refine Sq.add .plain rfl rfl rfl (by omega) ?_
        refine Sq.assign .plain rfl rfl ?_
        refine Sq.nil ?_
        refine Eq.end ?_
        refine Eq.next ?_
        refine Cq.region ?_
        refine Sq.move .plain rfl rfl ?_
        refine Sq.add .plain rfl rfl rfl (by omega) ?_
        refine Sq.assign .plain rfl rfl ?_
        refine Sq.nil ?_
        have e1 := toNat_succ hk.1
        refine Eq.round _ _ ⟨k + 1, _, rfl, rfl, by omega, hz, by rw [e1]; exact pow_step hn (by omega), rfl⟩ (by omega) (.cons rfl (.cons rfl (.cons rfl (.cons rfl (.nil)))))
      refine Sq.nil ?_
      refine Eq.next ?_
      refine Cq.els rfl ?_
      refine Cq.exit ?_
      refine Eq.past ?_
      refine Eq.past ?_
      refine Eq.hit ?_
      refine Eq.next ?_
      refine Cq.seq ?_
      refine Cq.seq ?_
      refine Cq.region ?_
      refine Sq.move .plain rfl rfl ?_
      refine Sq.nil ?_
      refine Eq.next ?_
      refine Cq.thn rfl ?_
      refine Cq.region ?_
      refine Sq.move .plain rfl rfl ?_
      refine Sq.neg .plain rfl rfl (by omega) ?_
      refine Sq.assign .plain rfl rfl ?_
      refine Sq.nil ?_
      refine Eq.next ?_
      refine Cq.seq ?_
      refine Cq.region ?_
      refine Sq.move .plain rfl rfl ?_
      refine Sq.assign .plain rfl rfl ?_
      refine Sq.assign .plain rfl rfl ?_
      refine Sq.nil ?_
      refine Eq.next ?_
      refine Cq.ret ?_
      refine Eq.ret2 rfl rfl rfl ?_
      exact ⟨⟨_, _, rfl, by omega⟩, rfl⟩
    refine Sq.pickT .plain rfl rfl rfl ?_
    refine Sq.assign .plain rfl rfl ?_
    refine Sq.nil ?_
    refine Eq.next ?_
    refine Cq.seq ?_
    refine Cq.seq ?_
    refine Cq.region ?_
    refine Sq.move .plain rfl rfl ?_
    refine Sq.nil ?_
    refine Eq.next ?_
    refine Cq.els rfl ?_
    refine Cq.skip ?_
    refine Eq.next ?_
    refine Cq.seq ?_
    refine Cq.seq ?_
    refine Cq.region ?_
    refine Sq.move .plain rfl rfl ?_
    refine Sq.lenStr .plain rfl und9 rfl ?_
    refine Sq.eql .plain rfl rfl rfl ?_
    refine Sq.part (fun c15 => ?_) (fun c15 => ?_)
    · refine Sq.move .plain rfl rfl ?_
      refine Sq.off rfl rfl rfl rfl rfl rfl ?_
      refine Sq.off rfl rfl rfl rfl rfl rfl ?_
      refine Sq.off rfl rfl rfl rfl rfl rfl ?_
      refine Sq.pickT .plain rfl rfl rfl ?_
      refine Sq.move .plain rfl rfl ?_
      refine Sq.off rfl rfl rfl rfl rfl rfl ?_
      refine Sq.off rfl rfl rfl rfl rfl rfl ?_
      refine Sq.off rfl rfl rfl rfl rfl rfl ?_
      refine Sq.off rfl rfl rfl rfl rfl rfl ?_
      refine Sq.offU rfl rfl rfl rfl rfl rfl ?_
      refine Sq.offU rfl rfl rfl rfl rfl rfl ?_
      refine Sq.offU rfl rfl rfl rfl rfl rfl ?_
      refine Sq.offU rfl rfl rfl rfl rfl rfl ?_
      refine Sq.offU rfl rfl rfl rfl rfl rfl ?_
      refine Sq.offU rfl rfl rfl rfl rfl rfl ?_
      refine Sq.off rfl rfl rfl rfl rfl rfl ?_
      refine Sq.pickT .plain rfl rfl rfl ?_
      refine Sq.nil ?_
      refine Eq.next ?_
      refine Cq.thn rfl ?_
      refine Cq.seq ?_
      refine Cq.region ?_
      refine Sq.assign .plain rfl rfl ?_
      refine Sq.assign .plain rfl rfl ?_
      refine Sq.nil ?_
      refine Eq.next ?_
      refine Cq.ret ?_
      refine Eq.pastRet ?_
      refine Eq.ret2 rfl rfl rfl ?_
      exact ⟨⟨_, _, rfl, by omega⟩, rfl⟩
    refine Sq.move .plain rfl rfl ?_
    refine Sq.move (.met rfl rfl rfl) rfl rfl ?_
    refine Sq.lenStr (.met rfl rfl rfl) rfl und9 rfl ?_
    refine Sq.gtr (.met rfl rfl rfl) rfl rfl rfl ?_
    refine Sq.part (fun c16 => ?_) (fun c16 => ?_)
    · refine Sq.pickF .plain rfl rfl rfl ?_
      refine Sq.move .plain rfl rfl ?_
      refine Sq.off rfl rfl rfl rfl rfl rfl ?_
      refine Sq.off rfl rfl rfl rfl rfl rfl ?_
      refine Sq.off rfl rfl rfl rfl rfl rfl ?_
      refine Sq.off rfl rfl rfl rfl rfl rfl ?_
      refine Sq.offU rfl rfl rfl rfl rfl rfl ?_
      refine Sq.offU rfl rfl rfl rfl rfl rfl ?_
      refine Sq.offU rfl rfl rfl rfl rfl rfl ?_
      refine Sq.offU rfl rfl rfl rfl rfl rfl ?_
      refine Sq.offU rfl rfl rfl rfl rfl rfl ?_
      refine Sq.offU rfl rfl rfl rfl rfl rfl ?_
      refine Sq.off rfl rfl rfl rfl rfl rfl ?_
      refine Sq.pickT .plain rfl rfl rfl ?_
      refine Sq.nil ?_
      refine Eq.next ?_
      refine Cq.thn rfl ?_
      refine Cq.seq ?_
      refine Cq.region ?_
      refine Sq.assign .plain rfl rfl ?_
      refine Sq.assign .plain rfl rfl ?_
      refine Sq.nil ?_
      refine Eq.next ?_
      refine Cq.ret ?_
      refine Eq.pastRet ?_
      refine Eq.ret2 rfl rfl rfl ?_
      exact ⟨⟨_, _, rfl, by omega⟩, rfl⟩
    refine Sq.pickF .plain rfl rfl rfl ?_
    refine Sq.move .plain rfl rfl ?_
    refine Sq.move (.met rfl rfl rfl) rfl rfl ?_
    refine Sq.idxStr (.met rfl rfl rfl) rfl und9 rfl rfl (by omega) (str_at (by omega)) ?_
    refine Sq.eql (.met rfl rfl rfl) rfl rfl rfl ?_
    refine Sq.part (fun c18 => ?_) (fun c18 => ?_)
    · refine Sq.move (.met rfl rfl rfl) rfl rfl ?_
      refine Sq.move (.met rfl rfl rfl) rfl rfl ?_
      refine Sq.lenStr (.met rfl rfl rfl) rfl und9 rfl ?_
      refine Sq.gtr (.met rfl rfl rfl) rfl rfl rfl ?_
      refine Sq.part (fun c19 => ?_) (fun c19 => ?_)
      · refine Sq.move (.met rfl rfl rfl) rfl rfl ?_
        refine Sq.off rfl rfl rfl rfl rfl rfl ?_
        refine Sq.pickT (.met rfl rfl rfl) rfl rfl rfl ?_
        refine Sq.pickT (.met rfl rfl rfl) rfl rfl rfl ?_
        refine Sq.pickF .plain rfl rfl rfl ?_
        refine Sq.nil ?_
        refine Eq.next ?_
        refine Cq.thn rfl ?_
        refine Cq.seq ?_
        refine Cq.region ?_
        refine Sq.assign .plain rfl rfl ?_
        refine Sq.assign .plain rfl rfl ?_
        refine Sq.nil ?_
        refine Eq.next ?_
        refine Cq.ret ?_
        refine Eq.pastRet ?_
        refine Eq.ret2 rfl rfl rfl ?_
        exact ⟨⟨_, _, rfl, by omega⟩, rfl⟩
      refine Sq.move (.met rfl rfl rfl) rfl rfl ?_
      refine Sq.move (.met rfl rfl rfl) rfl rfl ?_
      refine Sq.pickF (.met rfl rfl rfl) rfl rfl rfl ?_
      refine Sq.pickT (.met rfl rfl rfl) rfl rfl rfl ?_
      refine Sq.pickF .plain rfl rfl rfl ?_
      refine Sq.nil ?_
      refine Eq.next ?_
      refine Cq.els rfl ?_
      refine Cq.skip ?_
      refine Eq.next ?_
      refine Cq.seq ?_
      refine Cq.region ?_
      refine Sq.assign .plain rfl rfl ?_
      refine Sq.nil ?_
      refine Eq.next ?_
      refine Cq.seq ?_
      refine Cq.seq ?_
      refine Cq.region ?_
      refine Sq.assign .plain rfl rfl ?_
      refine Sq.nil ?_
      refine Eq.next ?_
      refine Cq.block ?_
      refine Cq.loop (fun nn w ls => ∃ (k : Int), ∃ (n : Int), ls = [(0, Value.string s), (4, Value.bool false), (5, Value.int .i64 n), (6, Value.int .i64 k)] ∧ w0 = w ∧ (0 ≤ k ∧ k ≤ (s).size) ∧ ((s).size ≤ 17) ∧ (0 ≤ n ∧ n < 10 ^ k.toNat) ∧ nn = (((s).size : Int) - k).toNat) _ _ ⟨0, 0, rfl, rfl, by omega, by omega, by decide, rfl⟩ (.cons rfl (.cons rfl (.cons rfl (.cons rfl (.nil))))) ?_
      rintro n1 w ls ⟨k, n, rfl, rfl, hk, hz, hn, rfl⟩
      have hp := pow_small (k := k.toNat) (by omega)
      refine Cq.seq ?_
      refine Cq.seq ?_
      refine Cq.region ?_
      refine Sq.move .plain rfl rfl ?_
      refine Sq.move .plain rfl rfl ?_
      refine Sq.lenStr .plain rfl und9 rfl ?_
      refine Sq.lss .plain rfl rfl rfl ?_
      refine Sq.part (fun c20 => ?_) (fun c20 => ?_)
      · refine Sq.nil ?_
        refine Eq.next ?_
        refine Cq.thn rfl ?_
        refine Cq.skip ?_
        refine Eq.next ?_
        refine Cq.seq ?_
        refine Cq.block ?_
        refine Cq.seq ?_
        refine Cq.seq ?_
        refine Cq.region ?_
        refine Sq.move .plain rfl rfl ?_
        refine Sq.move .plain rfl rfl ?_
        refine Sq.idxStr .plain rfl und9 rfl rfl (by omega) (str_at (by omega)) ?_
        refine Sq.lss .plain rfl rfl rfl ?_
        refine Sq.part (fun c22 => ?_) (fun c22 => ?_)
        · refine Sq.move .plain rfl rfl ?_
          refine Sq.off rfl rfl rfl rfl rfl rfl ?_
          refine Sq.off rfl rfl rfl rfl rfl rfl ?_
          refine Sq.off rfl rfl rfl rfl rfl rfl ?_
          refine Sq.off rfl rfl rfl rfl rfl rfl ?_
          refine Sq.pickT .plain rfl rfl rfl ?_
          refine Sq.nil ?_
          refine Eq.next ?_
          refine Cq.thn rfl ?_
          refine Cq.seq ?_
          refine Cq.region ?_
          refine Sq.assign .plain rfl rfl ?_
          refine Sq.assign .plain rfl rfl ?_
          refine Sq.nil ?_
          refine Eq.next ?_
          refine Cq.ret ?_
          refine Eq.pastRet ?_
          refine Eq.outRet ?_
          refine Eq.pastRet ?_
          refine Eq.pastRet ?_
          refine Eq.outRet ?_
          refine Eq.pastRet ?_
          refine Eq.ret2 rfl rfl rfl ?_
          exact ⟨⟨_, _, rfl, by omega⟩, rfl⟩
        refine Sq.move .plain rfl rfl ?_
        refine Sq.move (.met rfl rfl rfl) rfl rfl ?_
        refine Sq.move (.met rfl rfl rfl) rfl rfl ?_
        refine Sq.idxStr (.met rfl rfl rfl) rfl und9 rfl rfl (by omega) (str_at (by omega)) ?_
        refine Sq.gtr (.met rfl rfl rfl) rfl rfl rfl ?_
        refine Sq.part (fun c24 => ?_) (fun c24 => ?_)
        · refine Sq.pickF .plain rfl rfl rfl ?_
          refine Sq.nil ?_
          refine Eq.next ?_
          refine Cq.thn rfl ?_
          refine Cq.seq ?_
          refine Cq.region ?_
          refine Sq.assign .plain rfl rfl ?_
          refine Sq.assign .plain rfl rfl ?_
          refine Sq.nil ?_
          refine Eq.next ?_
          refine Cq.ret ?_
          refine Eq.pastRet ?_
          refine Eq.outRet ?_
          refine Eq.pastRet ?_
          refine Eq.pastRet ?_
          refine Eq.outRet ?_
          refine Eq.pastRet ?_
          refine Eq.ret2 rfl rfl rfl ?_
          exact ⟨⟨_, _, rfl, by omega⟩, rfl⟩
        refine Sq.pickF .plain rfl rfl rfl ?_
        refine Sq.nil ?_
        refine Eq.next ?_
        refine Cq.els rfl ?_
        refine Cq.skip ?_
        refine Eq.next ?_
        refine Cq.region ?_
        refine Sq.move .plain rfl rfl ?_
        refine Sq.mul .plain rfl rfl rfl (by omega) ?_
        refine Sq.move .plain rfl rfl ?_
        refine Sq.move .plain rfl rfl ?_
        refine Sq.idxStr .plain rfl und9 rfl rfl (by omega) (str_at (by omega)) ?_
        refine Sq.sub8 .plain rfl rfl rfl (by omega) ?_
        refine Sq.conv conv5_3 .plain rfl rfl (by omega) ?_
        refine Sq.add .plain rfl rfl rfl (by omega) ?_
        refine Sq.assign .plain rfl rfl ?_
        refine Sq.nil ?_
        refine Eq.end ?_
        refine Eq.next ?_
        refine Cq.region ?_
        refine Sq.move .plain rfl rfl ?_
        refine Sq.add .plain rfl rfl rfl (by omega) ?_
        refine Sq.assign .plain rfl rfl ?_
        refine Sq.nil ?_
        have e1 := toNat_succ hk.1
        refine Eq.round _ _ ⟨k + 1, _, rfl, rfl, by omega, hz, by rw [e1]; exact pow_step hn (by omega), rfl⟩ (by omega) (.cons rfl (.cons rfl (.cons rfl (.cons rfl (.nil)))))
      refine Sq.nil ?_
      refine Eq.next ?_
      refine Cq.els rfl ?_
      refine Cq.exit ?_
      refine Eq.past ?_
      refine Eq.past ?_
      refine Eq.hit ?_
      refine Eq.next ?_
      refine Cq.seq ?_
      refine Cq.seq ?_
      refine Cq.region ?_
      refine Sq.move .plain rfl rfl ?_
      refine Sq.nil ?_
      refine Eq.next ?_
      refine Cq.els rfl ?_
      refine Cq.skip ?_
      refine Eq.next ?_
      refine Cq.seq ?_
      refine Cq.region ?_
      refine Sq.move .plain rfl rfl ?_
      refine Sq.assign .plain rfl rfl ?_
      refine Sq.assign .plain rfl rfl ?_
      refine Sq.nil ?_
      refine Eq.next ?_
      refine Cq.ret ?_
      refine Eq.ret2 rfl rfl rfl ?_
      exact ⟨⟨_, _, rfl, by omega⟩, rfl⟩
    refine Sq.move (.met rfl rfl rfl) rfl rfl ?_
    refine Sq.off rfl rfl rfl rfl rfl rfl ?_
    refine Sq.off rfl rfl rfl rfl rfl rfl ?_
    refine Sq.off rfl rfl rfl rfl rfl rfl ?_
    refine Sq.off rfl rfl rfl rfl rfl rfl ?_
    refine Sq.offU rfl rfl rfl rfl rfl rfl ?_
    refine Sq.off rfl rfl rfl rfl rfl rfl ?_
    refine Sq.pickF (.met rfl rfl rfl) rfl rfl rfl ?_
    refine Sq.pickF .plain rfl rfl rfl ?_
    refine Sq.nil ?_
    refine Eq.next ?_
    refine Cq.els rfl ?_
    refine Cq.skip ?_
    refine Eq.next ?_
    refine Cq.seq ?_
    refine Cq.region ?_
    refine Sq.assign .plain rfl rfl ?_
    refine Sq.nil ?_
    refine Eq.next ?_
    refine Cq.seq ?_
    refine Cq.seq ?_
    refine Cq.region ?_
    refine Sq.assign .plain rfl rfl ?_
    refine Sq.nil ?_
    refine Eq.next ?_
    refine Cq.block ?_
    refine Cq.loop (fun nn w ls => ∃ (k : Int), ∃ (n : Int), ls = [(0, Value.string s), (4, Value.bool false), (5, Value.int .i64 n), (6, Value.int .i64 k)] ∧ w0 = w ∧ (0 ≤ k ∧ k ≤ (s).size) ∧ ((s).size ≤ 17) ∧ (0 ≤ n ∧ n < 10 ^ k.toNat) ∧ nn = (((s).size : Int) - k).toNat) _ _ ⟨0, 0, rfl, rfl, by omega, by omega, by decide, rfl⟩ (.cons rfl (.cons rfl (.cons rfl (.cons rfl (.nil))))) ?_
    rintro n1 w ls ⟨k, n, rfl, rfl, hk, hz, hn, rfl⟩
    have hp := pow_small (k := k.toNat) (by omega)
    refine Cq.seq ?_
    refine Cq.seq ?_
    refine Cq.region ?_
    refine Sq.move .plain rfl rfl ?_
    refine Sq.move .plain rfl rfl ?_
    refine Sq.lenStr .plain rfl und9 rfl ?_
    refine Sq.lss .plain rfl rfl rfl ?_
    refine Sq.part (fun c26 => ?_) (fun c26 => ?_)
    · refine Sq.nil ?_
      refine Eq.next ?_
      refine Cq.thn rfl ?_
      refine Cq.skip ?_
      refine Eq.next ?_
      refine Cq.seq ?_
      refine Cq.block ?_
      refine Cq.seq ?_
      refine Cq.seq ?_
      refine Cq.region ?_
      refine Sq.move .plain rfl rfl ?_
      refine Sq.move .plain rfl rfl ?_
      refine Sq.idxStr .plain rfl und9 rfl rfl (by omega) (str_at (by omega)) ?_
      refine Sq.lss .plain rfl rfl rfl ?_
      refine Sq.part (fun c28 => ?_) (fun c28 => ?_)
      · refine Sq.move .plain rfl rfl ?_
        refine Sq.off rfl rfl rfl rfl rfl rfl ?_
        refine Sq.off rfl rfl rfl rfl rfl rfl ?_
        refine Sq.off rfl rfl rfl rfl rfl rfl ?_
        refine Sq.off rfl rfl rfl rfl rfl rfl ?_
        refine Sq.pickT .plain rfl rfl rfl ?_
        refine Sq.nil ?_
        refine Eq.next ?_
        refine Cq.thn rfl ?_
        refine Cq.seq ?_
        refine Cq.region ?_
        refine Sq.assign .plain rfl rfl ?_
        refine Sq.assign .plain rfl rfl ?_
        refine Sq.nil ?_
        refine Eq.next ?_
        refine Cq.ret ?_
        refine Eq.pastRet ?_
        refine Eq.outRet ?_
        refine Eq.pastRet ?_
        refine Eq.pastRet ?_
        refine Eq.outRet ?_
        refine Eq.pastRet ?_
        refine Eq.ret2 rfl rfl rfl ?_
        exact ⟨⟨_, _, rfl, by omega⟩, rfl⟩
      refine Sq.move .plain rfl rfl ?_
      refine Sq.move (.met rfl rfl rfl) rfl rfl ?_
      refine Sq.move (.met rfl rfl rfl) rfl rfl ?_
      refine Sq.idxStr (.met rfl rfl rfl) rfl und9 rfl rfl (by omega) (str_at (by omega)) ?_
      refine Sq.gtr (.met rfl rfl rfl) rfl rfl rfl ?_
      refine Sq.part (fun c30 => ?_) (fun c30 => ?_)
      · refine Sq.pickF .plain rfl rfl rfl ?_
        refine Sq.nil ?_
        refine Eq.next ?_
        refine Cq.thn rfl ?_
        refine Cq.seq ?_
        refine Cq.region ?_
        refine Sq.assign .plain rfl rfl ?_
        refine Sq.assign .plain rfl rfl ?_
        refine Sq.nil ?_
        refine Eq.next ?_
        refine Cq.ret ?_
        refine Eq.pastRet ?_
        refine Eq.outRet ?_
        refine Eq.pastRet ?_
        refine Eq.pastRet ?_
        refine Eq.outRet ?_
        refine Eq.pastRet ?_
        refine Eq.ret2 rfl rfl rfl ?_
        exact ⟨⟨_, _, rfl, by omega⟩, rfl⟩
      refine Sq.pickF .plain rfl rfl rfl ?_
      refine Sq.nil ?_
      refine Eq.next ?_
      refine Cq.els rfl ?_
      refine Cq.skip ?_
      refine Eq.next ?_
      refine Cq.region ?_
      refine Sq.move .plain rfl rfl ?_
      refine Sq.mul .plain rfl rfl rfl (by omega) ?_
      refine Sq.move .plain rfl rfl ?_
      refine Sq.move .plain rfl rfl ?_
      refine Sq.idxStr .plain rfl und9 rfl rfl (by omega) (str_at (by omega)) ?_
      refine Sq.sub8 .plain rfl rfl rfl (by omega) ?_
      refine Sq.conv conv5_3 .plain rfl rfl (by omega) ?_
      refine Sq.add .plain rfl rfl rfl (by omega) ?_
      refine Sq.assign .plain rfl rfl ?_
      refine Sq.nil ?_
      refine Eq.end ?_
      refine Eq.next ?_
      refine Cq.region ?_
      refine Sq.move .plain rfl rfl ?_
      refine Sq.add .plain rfl rfl rfl (by omega) ?_
      refine Sq.assign .plain rfl rfl ?_
      refine Sq.nil ?_
      have e1 := toNat_succ hk.1
      refine Eq.round _ _ ⟨k + 1, _, rfl, rfl, by omega, hz, by rw [e1]; exact pow_step hn (by omega), rfl⟩ (by omega) (.cons rfl (.cons rfl (.cons rfl (.cons rfl (.nil)))))
    refine Sq.nil ?_
    refine Eq.next ?_
    refine Cq.els rfl ?_
    refine Cq.exit ?_
    refine Eq.past ?_
    refine Eq.past ?_
    refine Eq.hit ?_
    refine Eq.next ?_
    refine Cq.seq ?_
    refine Cq.seq ?_
    refine Cq.region ?_
    refine Sq.move .plain rfl rfl ?_
    refine Sq.nil ?_
    refine Eq.next ?_
    refine Cq.els rfl ?_
    refine Cq.skip ?_
    refine Eq.next ?_
    refine Cq.seq ?_
    refine Cq.region ?_
    refine Sq.move .plain rfl rfl ?_
    refine Sq.assign .plain rfl rfl ?_
    refine Sq.assign .plain rfl rfl ?_
    refine Sq.nil ?_
    refine Eq.next ?_
    refine Cq.ret ?_
    refine Eq.ret2 rfl rfl rfl ?_
    exact ⟨⟨_, _, rfl, by omega⟩, rfl⟩
  refine Sq.move .plain rfl rfl ?_
  refine Sq.off rfl rfl rfl rfl rfl rfl ?_
  refine Sq.off rfl rfl rfl rfl rfl rfl ?_
  refine Sq.off rfl rfl rfl rfl rfl rfl ?_
  refine Sq.pickF .plain rfl rfl rfl ?_
  refine Sq.assign .plain rfl rfl ?_
  refine Sq.nil ?_
  refine Eq.next ?_
  refine Cq.seq ?_
  refine Cq.seq ?_
  refine Cq.region ?_
  refine Sq.move .plain rfl rfl ?_
  refine Sq.nil ?_
  refine Eq.next ?_
  refine Cq.els rfl ?_
  refine Cq.skip ?_
  refine Eq.next ?_
  refine Cq.seq ?_
  refine Cq.seq ?_
  refine Cq.region ?_
  refine Sq.move .plain rfl rfl ?_
  refine Sq.lenStr .plain rfl und9 rfl ?_
  refine Sq.eql .plain rfl rfl rfl ?_
  refine Sq.part (fun c32 => ?_) (fun c32 => ?_)
  · refine Sq.move .plain rfl rfl ?_
    refine Sq.off rfl rfl rfl rfl rfl rfl ?_
    refine Sq.off rfl rfl rfl rfl rfl rfl ?_
    refine Sq.off rfl rfl rfl rfl rfl rfl ?_
    refine Sq.pickT .plain rfl rfl rfl ?_
    refine Sq.move .plain rfl rfl ?_
    refine Sq.off rfl rfl rfl rfl rfl rfl ?_
    refine Sq.off rfl rfl rfl rfl rfl rfl ?_
    refine Sq.off rfl rfl rfl rfl rfl rfl ?_
    refine Sq.off rfl rfl rfl rfl rfl rfl ?_
    refine Sq.offU rfl rfl rfl rfl rfl rfl ?_
    refine Sq.offU rfl rfl rfl rfl rfl rfl ?_
    refine Sq.offU rfl rfl rfl rfl rfl rfl ?_
    refine Sq.offU rfl rfl rfl rfl rfl rfl ?_
    refine Sq.offU rfl rfl rfl rfl rfl rfl ?_
    refine Sq.offU rfl rfl rfl rfl rfl rfl ?_
    refine Sq.off rfl rfl rfl rfl rfl rfl ?_
    refine Sq.pickT .plain rfl rfl rfl ?_
    refine Sq.nil ?_
    refine Eq.next ?_
    refine Cq.thn rfl ?_
    refine Cq.seq ?_
    refine Cq.region ?_
    refine Sq.assign .plain rfl rfl ?_
    refine Sq.assign .plain rfl rfl ?_
    refine Sq.nil ?_
    refine Eq.next ?_
    refine Cq.ret ?_
    refine Eq.pastRet ?_
    refine Eq.ret2 rfl rfl rfl ?_
    exact ⟨⟨_, _, rfl, by omega⟩, rfl⟩
  refine Sq.move .plain rfl rfl ?_
  refine Sq.move (.met rfl rfl rfl) rfl rfl ?_
  refine Sq.lenStr (.met rfl rfl rfl) rfl und9 rfl ?_
  refine Sq.gtr (.met rfl rfl rfl) rfl rfl rfl ?_
  refine Sq.part (fun c33 => ?_) (fun c33 => ?_)
  · refine Sq.pickF .plain rfl rfl rfl ?_
    refine Sq.move .plain rfl rfl ?_
    refine Sq.off rfl rfl rfl rfl rfl rfl ?_
    refine Sq.off rfl rfl rfl rfl rfl rfl ?_
    refine Sq.off rfl rfl rfl rfl rfl rfl ?_
    refine Sq.off rfl rfl rfl rfl rfl rfl ?_
    refine Sq.offU rfl rfl rfl rfl rfl rfl ?_
    refine Sq.offU rfl rfl rfl rfl rfl rfl ?_
    refine Sq.offU rfl rfl rfl rfl rfl rfl ?_
    refine Sq.offU rfl rfl rfl rfl rfl rfl ?_
    refine Sq.offU rfl rfl rfl rfl rfl rfl ?_
    refine Sq.offU rfl rfl rfl rfl rfl rfl ?_
    refine Sq.off rfl rfl rfl rfl rfl rfl ?_
    refine Sq.pickT .plain rfl rfl rfl ?_
    refine Sq.nil ?_
    refine Eq.next ?_
    refine Cq.thn rfl ?_
    refine Cq.seq ?_
    refine Cq.region ?_
    refine Sq.assign .plain rfl rfl ?_
    refine Sq.assign .plain rfl rfl ?_
    refine Sq.nil ?_
    refine Eq.next ?_
    refine Cq.ret ?_
    refine Eq.pastRet ?_
    refine Eq.ret2 rfl rfl rfl ?_
    exact ⟨⟨_, _, rfl, by omega⟩, rfl⟩
  refine Sq.pickF .plain rfl rfl rfl ?_
  refine Sq.move .plain rfl rfl ?_
  refine Sq.move (.met rfl rfl rfl) rfl rfl ?_
  refine Sq.idxStr (.met rfl rfl rfl) rfl und9 rfl rfl (by omega) (str_at (by omega)) ?_
  refine Sq.eql (.met rfl rfl rfl) rfl rfl rfl ?_
  refine Sq.part (fun c35 => ?_) (fun c35 => ?_)
  · refine Sq.move (.met rfl rfl rfl) rfl rfl ?_
    refine Sq.move (.met rfl rfl rfl) rfl rfl ?_
    refine Sq.lenStr (.met rfl rfl rfl) rfl und9 rfl ?_
    refine Sq.gtr (.met rfl rfl rfl) rfl rfl rfl ?_
    refine Sq.part (fun c36 => ?_) (fun c36 => ?_)
    · refine Sq.move (.met rfl rfl rfl) rfl rfl ?_
      refine Sq.off rfl rfl rfl rfl rfl rfl ?_
      refine Sq.pickT (.met rfl rfl rfl) rfl rfl rfl ?_
      refine Sq.pickT (.met rfl rfl rfl) rfl rfl rfl ?_
      refine Sq.pickF .plain rfl rfl rfl ?_
      refine Sq.nil ?_
      refine Eq.next ?_
      refine Cq.thn rfl ?_
      refine Cq.seq ?_
      refine Cq.region ?_
      refine Sq.assign .plain rfl rfl ?_
      refine Sq.assign .plain rfl rfl ?_
      refine Sq.nil ?_
      refine Eq.next ?_
      refine Cq.ret ?_
      refine Eq.pastRet ?_
      refine Eq.ret2 rfl rfl rfl ?_
      exact ⟨⟨_, _, rfl, by omega⟩, rfl⟩
    refine Sq.move (.met rfl rfl rfl) rfl rfl ?_
    refine Sq.move (.met rfl rfl rfl) rfl rfl ?_
    refine Sq.pickF (.met rfl rfl rfl) rfl rfl rfl ?_
    refine Sq.pickT (.met rfl rfl rfl) rfl rfl rfl ?_
    refine Sq.pickF .plain rfl rfl rfl ?_
    refine Sq.nil ?_
    refine Eq.next ?_
    refine Cq.els rfl ?_
    refine Cq.skip ?_
    refine Eq.next ?_
    refine Cq.seq ?_
    refine Cq.region ?_
    refine Sq.assign .plain rfl rfl ?_
    refine Sq.nil ?_
    refine Eq.next ?_
    refine Cq.seq ?_
    refine Cq.seq ?_
    refine Cq.region ?_
    refine Sq.assign .plain rfl rfl ?_
    refine Sq.nil ?_
    refine Eq.next ?_
    refine Cq.block ?_
    refine Cq.loop (fun nn w ls => ∃ (k : Int), ∃ (n : Int), ls = [(0, Value.string s), (4, Value.bool false), (5, Value.int .i64 n), (6, Value.int .i64 k)] ∧ w0 = w ∧ (0 ≤ k ∧ k ≤ (s).size) ∧ ((s).size ≤ 17) ∧ (0 ≤ n ∧ n < 10 ^ k.toNat) ∧ nn = (((s).size : Int) - k).toNat) _ _ ⟨0, 0, rfl, rfl, by omega, by omega, by decide, rfl⟩ (.cons rfl (.cons rfl (.cons rfl (.cons rfl (.nil))))) ?_
    rintro n1 w ls ⟨k, n, rfl, rfl, hk, hz, hn, rfl⟩
    have hp := pow_small (k := k.toNat) (by omega)
    refine Cq.seq ?_
    refine Cq.seq ?_
    refine Cq.region ?_
    refine Sq.move .plain rfl rfl ?_
    refine Sq.move .plain rfl rfl ?_
    refine Sq.lenStr .plain rfl und9 rfl ?_
    refine Sq.lss .plain rfl rfl rfl ?_
    refine Sq.part (fun c37 => ?_) (fun c37 => ?_)
    · refine Sq.nil ?_
      refine Eq.next ?_
      refine Cq.thn rfl ?_
      refine Cq.skip ?_
      refine Eq.next ?_
      refine Cq.seq ?_
      refine Cq.block ?_
      refine Cq.seq ?_
      refine Cq.seq ?_
      refine Cq.region ?_
      refine Sq.move .plain rfl rfl ?_
      refine Sq.move .plain rfl rfl ?_
      refine Sq.idxStr .plain rfl und9 rfl rfl (by omega) (str_at (by omega)) ?_
      refine Sq.lss .plain rfl rfl rfl ?_
      refine Sq.part (fun c39 => ?_) (fun c39 => ?_)
      · refine Sq.move .plain rfl rfl ?_
        refine Sq.off rfl rfl rfl rfl rfl rfl ?_
        refine Sq.off rfl rfl rfl rfl rfl rfl ?_
        refine Sq.off rfl rfl rfl rfl rfl rfl ?_
        refine Sq.off rfl rfl rfl rfl rfl rfl ?_
        refine Sq.pickT .plain rfl rfl rfl ?_
        refine Sq.nil ?_
        refine Eq.next ?_
        refine Cq.thn rfl ?_
        refine Cq.seq ?_
        refine Cq.region ?_
        refine Sq.assign .plain rfl rfl ?_
        refine Sq.assign .plain rfl rfl ?_
        refine Sq.nil ?_
        refine Eq.next ?_
        refine Cq.ret ?_
        refine Eq.pastRet ?_
        refine Eq.outRet ?_
        refine Eq.pastRet ?_
        refine Eq.pastRet ?_
        refine Eq.outRet ?_
        refine Eq.pastRet ?_
        refine Eq.ret2 rfl rfl rfl ?_
        exact ⟨⟨_, _, rfl, by omega⟩, rfl⟩
      refine Sq.move .plain rfl rfl ?_
      refine Sq.move (.met rfl rfl rfl) rfl rfl ?_
      refine Sq.move (.met rfl rfl rfl) rfl rfl ?_
      refine Sq.idxStr (.met rfl rfl rfl) rfl und9 rfl rfl (by omega) (str_at (by omega)) ?_
      refine Sq.gtr (.met rfl rfl rfl) rfl rfl rfl ?_
      refine Sq.part (fun c41 => ?_) (fun c41 => ?_)
      · refine Sq.pickF .plain rfl rfl rfl ?_
        refine Sq.nil ?_
        refine Eq.next ?_
        refine Cq.thn rfl ?_
        refine Cq.seq ?_
        refine Cq.region ?_
        refine Sq.assign .plain rfl rfl ?_
        refine Sq.assign .plain rfl rfl ?_
        refine Sq.nil ?_
        refine Eq.next ?_
        refine Cq.ret ?_
        refine Eq.pastRet ?_
        refine Eq.outRet ?_
        refine Eq.pastRet ?_
        refine Eq.pastRet ?_
        refine Eq.outRet ?_
        refine Eq.pastRet ?_
        refine Eq.ret2 rfl rfl rfl ?_
        exact ⟨⟨_, _, rfl, by omega⟩, rfl⟩
      refine Sq.pickF .plain rfl rfl rfl ?_
      refine Sq.nil ?_
      refine Eq.next ?_
      refine Cq.els rfl ?_
      refine Cq.skip ?_
      refine Eq.next ?_
      refine Cq.region ?_
      refine Sq.move .plain rfl rfl ?_
      refine Sq.mul .plain rfl rfl rfl (by omega) ?_
      refine Sq.move .plain rfl rfl ?_
      refine Sq.move .plain rfl rfl ?_
      refine Sq.idxStr .plain rfl und9 rfl rfl (by omega) (str_at (by omega)) ?_
      refine Sq.sub8 .plain rfl rfl rfl (by omega) ?_
      refine Sq.conv conv5_3 .plain rfl rfl (by omega) ?_
      refine Sq.add .plain rfl rfl rfl (by omega) ?_
      refine Sq.assign .plain rfl rfl ?_
      refine Sq.nil ?_
      refine Eq.end ?_
      refine Eq.next ?_
      refine Cq.region ?_
      refine Sq.move .plain rfl rfl ?_
      refine Sq.add .plain rfl rfl rfl (by omega) ?_
      refine Sq.assign .plain rfl rfl ?_
      refine Sq.nil ?_
      have e1 := toNat_succ hk.1
      refine Eq.round _ _ ⟨k + 1, _, rfl, rfl, by omega, hz, by rw [e1]; exact pow_step hn (by omega), rfl⟩ (by omega) (.cons rfl (.cons rfl (.cons rfl (.cons rfl (.nil)))))
    refine Sq.nil ?_
    refine Eq.next ?_
    refine Cq.els rfl ?_
    refine Cq.exit ?_
    refine Eq.past ?_
    refine Eq.past ?_
    refine Eq.hit ?_
    refine Eq.next ?_
    refine Cq.seq ?_
    refine Cq.seq ?_
    refine Cq.region ?_
    refine Sq.move .plain rfl rfl ?_
    refine Sq.nil ?_
    refine Eq.next ?_
    refine Cq.els rfl ?_
    refine Cq.skip ?_
    refine Eq.next ?_
    refine Cq.seq ?_
    refine Cq.region ?_
    refine Sq.move .plain rfl rfl ?_
    refine Sq.assign .plain rfl rfl ?_
    refine Sq.assign .plain rfl rfl ?_
    refine Sq.nil ?_
    refine Eq.next ?_
    refine Cq.ret ?_
    refine Eq.ret2 rfl rfl rfl ?_
    exact ⟨⟨_, _, rfl, by omega⟩, rfl⟩
  refine Sq.move (.met rfl rfl rfl) rfl rfl ?_
  refine Sq.off rfl rfl rfl rfl rfl rfl ?_
  refine Sq.off rfl rfl rfl rfl rfl rfl ?_
  refine Sq.off rfl rfl rfl rfl rfl rfl ?_
  refine Sq.off rfl rfl rfl rfl rfl rfl ?_
  refine Sq.offU rfl rfl rfl rfl rfl rfl ?_
  refine Sq.off rfl rfl rfl rfl rfl rfl ?_
  refine Sq.pickF (.met rfl rfl rfl) rfl rfl rfl ?_
  refine Sq.pickF .plain rfl rfl rfl ?_
  refine Sq.nil ?_
  refine Eq.next ?_
  refine Cq.els rfl ?_
  refine Cq.skip ?_
  refine Eq.next ?_
  refine Cq.seq ?_
  refine Cq.region ?_
  refine Sq.assign .plain rfl rfl ?_
  refine Sq.nil ?_
  refine Eq.next ?_
  refine Cq.seq ?_
  refine Cq.seq ?_
  refine Cq.region ?_
  refine Sq.assign .plain rfl rfl ?_
  refine Sq.nil ?_
  refine Eq.next ?_
  refine Cq.block ?_
  refine Cq.loop (fun nn w ls => ∃ (k : Int), ∃ (n : Int), ls = [(0, Value.string s), (4, Value.bool false), (5, Value.int .i64 n), (6, Value.int .i64 k)] ∧ w0 = w ∧ (0 ≤ k ∧ k ≤ (s).size) ∧ ((s).size ≤ 17) ∧ (0 ≤ n ∧ n < 10 ^ k.toNat) ∧ nn = (((s).size : Int) - k).toNat) _ _ ⟨0, 0, rfl, rfl, by omega, by omega, by decide, rfl⟩ (.cons rfl (.cons rfl (.cons rfl (.cons rfl (.nil))))) ?_
  rintro n1 w ls ⟨k, n, rfl, rfl, hk, hz, hn, rfl⟩
  have hp := pow_small (k := k.toNat) (by omega)
  refine Cq.seq ?_
  refine Cq.seq ?_
  refine Cq.region ?_
  refine Sq.move .plain rfl rfl ?_
  refine Sq.move .plain rfl rfl ?_
  refine Sq.lenStr .plain rfl und9 rfl ?_
  refine Sq.lss .plain rfl rfl rfl ?_
  refine Sq.part (fun c43 => ?_) (fun c43 => ?_)
  · refine Sq.nil ?_
    refine Eq.next ?_
    refine Cq.thn rfl ?_
    refine Cq.skip ?_
    refine Eq.next ?_
    refine Cq.seq ?_
    refine Cq.block ?_
    refine Cq.seq ?_
    refine Cq.seq ?_
    refine Cq.region ?_
    refine Sq.move .plain rfl rfl ?_
    refine Sq.move .plain rfl rfl ?_
    refine Sq.idxStr .plain rfl und9 rfl rfl (by omega) (str_at (by omega)) ?_
    refine Sq.lss .plain rfl rfl rfl ?_
    refine Sq.part (fun c45 => ?_) (fun c45 => ?_)
    · refine Sq.move .plain rfl rfl ?_
      refine Sq.off rfl rfl rfl rfl rfl rfl ?_
      refine Sq.off rfl rfl rfl rfl rfl rfl ?_
      refine Sq.off rfl rfl rfl rfl rfl rfl ?_
      refine Sq.off rfl rfl rfl rfl rfl rfl ?_
      refine Sq.pickT .plain rfl rfl rfl ?_
      refine Sq.nil ?_
      refine Eq.next ?_
      refine Cq.thn rfl ?_
      refine Cq.seq ?_
      refine Cq.region ?_
      refine Sq.assign .plain rfl rfl ?_
      refine Sq.assign .plain rfl rfl ?_
      refine Sq.nil ?_
      refine Eq.next ?_
      refine Cq.ret ?_
      refine Eq.pastRet ?_
      refine Eq.outRet ?_
      refine Eq.pastRet ?_
      refine Eq.pastRet ?_
      refine Eq.outRet ?_
      refine Eq.pastRet ?_
      refine Eq.ret2 rfl rfl rfl ?_
      exact ⟨⟨_, _, rfl, by omega⟩, rfl⟩
    refine Sq.move .plain rfl rfl ?_
    refine Sq.move (.met rfl rfl rfl) rfl rfl ?_
    refine Sq.move (.met rfl rfl rfl) rfl rfl ?_
    refine Sq.idxStr (.met rfl rfl rfl) rfl und9 rfl rfl (by omega) (str_at (by omega)) ?_
    refine Sq.gtr (.met rfl rfl rfl) rfl rfl rfl ?_
    refine Sq.part (fun c47 => ?_) (fun c47 => ?_)
    · refine Sq.pickF .plain rfl rfl rfl ?_
      refine Sq.nil ?_
      refine Eq.next ?_
      refine Cq.thn rfl ?_
      refine Cq.seq ?_
      refine Cq.region ?_
      refine Sq.assign .plain rfl rfl ?_
      refine Sq.assign .plain rfl rfl ?_
      refine Sq.nil ?_
      refine Eq.next ?_
      refine Cq.ret ?_
      refine Eq.pastRet ?_
      refine Eq.outRet ?_
      refine Eq.pastRet ?_
      refine Eq.pastRet ?_
      refine Eq.outRet ?_
      refine Eq.pastRet ?_
      refine Eq.ret2 rfl rfl rfl ?_
      exact ⟨⟨_, _, rfl, by omega⟩, rfl⟩
    refine Sq.pickF .plain rfl rfl rfl ?_
    refine Sq.nil ?_
    refine Eq.next ?_
    refine Cq.els rfl ?_
    refine Cq.skip ?_
    refine Eq.next ?_
    refine Cq.region ?_
    refine Sq.move .plain rfl rfl ?_
    refine Sq.mul .plain rfl rfl rfl (by omega) ?_
    refine Sq.move .plain rfl rfl ?_
    refine Sq.move .plain rfl rfl ?_
    refine Sq.idxStr .plain rfl und9 rfl rfl (by omega) (str_at (by omega)) ?_
    refine Sq.sub8 .plain rfl rfl rfl (by omega) ?_
    refine Sq.conv conv5_3 .plain rfl rfl (by omega) ?_
    refine Sq.add .plain rfl rfl rfl (by omega) ?_
    refine Sq.assign .plain rfl rfl ?_
    refine Sq.nil ?_
    refine Eq.end ?_
    refine Eq.next ?_
    refine Cq.region ?_
    refine Sq.move .plain rfl rfl ?_
    refine Sq.add .plain rfl rfl rfl (by omega) ?_
    refine Sq.assign .plain rfl rfl ?_
    refine Sq.nil ?_
    have e1 := toNat_succ hk.1
    refine Eq.round _ _ ⟨k + 1, _, rfl, rfl, by omega, hz, by rw [e1]; exact pow_step hn (by omega), rfl⟩ (by omega) (.cons rfl (.cons rfl (.cons rfl (.cons rfl (.nil)))))
  refine Sq.nil ?_
  refine Eq.next ?_
  refine Cq.els rfl ?_
  refine Cq.exit ?_
  refine Eq.past ?_
  refine Eq.past ?_
  refine Eq.hit ?_
  refine Eq.next ?_
  refine Cq.seq ?_
  refine Cq.seq ?_
  refine Cq.region ?_
  refine Sq.move .plain rfl rfl ?_
  refine Sq.nil ?_
  refine Eq.next ?_
  refine Cq.els rfl ?_
  refine Cq.skip ?_
  refine Eq.next ?_
  refine Cq.seq ?_
  refine Cq.region ?_
  refine Sq.move .plain rfl rfl ?_
  refine Sq.assign .plain rfl rfl ?_
  refine Sq.assign .plain rfl rfl ?_
  refine Sq.nil ?_
  refine Eq.next ?_
  refine Cq.ret ?_
  refine Eq.ret2 rfl rfl rfl ?_
  exact ⟨⟨_, _, rfl, by omega⟩, rfl⟩
set_option maxRecDepth 100000 in
theorem l3Parse_c (s : ByteArray) (hs : s.size ≤ 100000) (w0 : World) : Ret Tryz.prog 35 #[Value.string s] w0 (fun v w => (∃ (r : Value) (ok : Bool) (xs : List Int), v = .tuple #[r, .bool ok] ∧ Own w w0.heap.size 3 r (xs.map (Value.int .i64)) ∧ xs.length ≤ s.size + 1) ∧ Ext w0 w) := by
  have E := Ext.refl w0
  refine Ret.of (args := [Value.string s]) Tryz.func35 rfl rfl rfl ?_
  rintro _ rfl
  show Cq _ _ _ _ [(0, Value.string s)] _
  refine Cq.seq ?_
  refine Cq.region ?_
  refine Sq.assign .plain rfl rfl ?_
  refine Sq.assign .plain rfl rfl ?_
  refine Sq.nil ?_
  refine Eq.next ?_
  refine Cq.seq ?_
  refine Cq.region ?_
  refine Sq.lit sl36 rfl rfl .plain rfl rfl one_nil (fun b1 w2 e3 hlo4 ho5 _ => ?_)
  replace ho5 := ho5 w0.heap.size (Nat.le_refl _)
  have hs7 := Below.size e3
  replace E := E.trans e3
  refine Sq.assign .plain rfl rfl ?_
  refine Sq.nil ?_
  refine Eq.next ?_
  refine Cq.seq ?_
  refine Cq.seq ?_
  refine Cq.region ?_
  refine Sq.move .plain rfl rfl ?_
  refine Sq.eqlS .plain rfl rfl rfl ?_
  refine Sq.part (fun c8 => ?_) (fun c8 => ?_)
  · refine Sq.nil ?_
    refine Eq.next ?_
    refine Cq.thn rfl ?_
    refine Cq.seq ?_
    refine Cq.region ?_
    refine Sq.move .plain rfl rfl ?_
    refine Sq.assign .plain rfl rfl ?_
    refine Sq.assign .plain rfl rfl ?_
    refine Sq.nil ?_
    refine Eq.next ?_
    refine Cq.ret ?_
    refine Eq.pastRet ?_
    refine Eq.ret2 rfl rfl rfl ?_
    exact ⟨⟨_, _, [], rfl, Own.mono ho5 (by omega), by simp⟩, E⟩
  refine Sq.nil ?_
  refine Eq.next ?_
  refine Cq.els rfl ?_
  refine Cq.skip ?_
  refine Eq.next ?_
  refine Cq.seq ?_
  refine Cq.region ?_
  refine Sq.move .plain rfl rfl ?_
  refine Sq.call fn33 .plain rfl rfl (cut_c s 44 (by omega) _) ?_
  rintro v9 w10 ⟨⟨xs12, ho13, hxl14, hxs15⟩, e11⟩
  have hs16 := Below.size E
  have hs17 := Below.size e11
  replace E := E.trans e11
  replace ho5 := ho5.ext e11
  refine Sq.assign .plain rfl rfl ?_
  refine Sq.nil ?_
  refine Eq.next ?_
  refine Cq.seq ?_
  refine Cq.seq ?_
  refine Cq.region ?_
  refine Sq.assign .plain rfl rfl ?_
  refine Sq.nil ?_
  refine Eq.next ?_
  refine Cq.block ?_
  refine Cq.loop (fun nn w ls => ∃ (k : Int), ∃ (v : Value), ∃ (ys : List Int), ls = [(0, Value.string s), (4, v), (5, v9), (6, Value.int .i64 k)] ∧ (0 ≤ k ∧ k ≤ xs12.length) ∧ Own w w0.heap.size 3 v (ys.map (Value.int .i64)) ∧ ((ys.length : Int) = k) ∧ Ext w0 w ∧ Own w w2.heap.size 9 v9 (xs12.map Value.string) ∧ nn = ((xs12.length : Int) - k).toNat) _ _ ⟨0, _, [], rfl, by omega, Own.mono ho5 (by omega), rfl, E, ho13, rfl⟩ (.cons rfl (.cons rfl (.cons rfl (.cons rfl (.nil))))) ?_
  rintro nn wl1 ls ⟨k, v, ys, rfl, hk, ho, hl, E, ho13, rfl⟩
  have hs18 := Below.size E
  refine Cq.seq ?_
  refine Cq.seq ?_
  refine Cq.region ?_
  refine Sq.move .plain rfl rfl ?_
  refine Sq.move .plain rfl rfl ?_
  refine Sq.lenStrs (Own.row ho13) .plain rfl und37 rfl ?_
  refine Sq.lss .plain rfl rfl rfl ?_
  refine Sq.part (fun c19 => ?_) (fun c19 => ?_)
  · refine Sq.nil ?_
    refine Eq.next ?_
    refine Cq.thn rfl ?_
    refine Cq.skip ?_
    refine Eq.next ?_
    refine Cq.seq ?_
    refine Cq.block ?_
    refine Cq.seq ?_
    refine Cq.region ?_
    refine Sq.move .plain rfl rfl ?_
    refine Sq.move .plain rfl rfl ?_
    refine Sq.idxStrs sl37 one9 (Own.row ho13) .plain rfl rfl rfl .plain rfl rfl (by omega) (by omega) ?_
    refine Sq.call fn53 .plain rfl rfl (num10_c (xs12.getD k.toNat ByteArray.empty) (by exact Nat.le_trans (hxs15 _ (getD_mem (by omega))) (by omega)) _) ?_
    rintro _ _ ⟨⟨n20, ok21, rfl, hn22⟩, rfl⟩
    refine Sq.move .plain rfl rfl ?_
    refine Sq.extract .plain rfl rfl rfl ?_
    refine Sq.extract .plain rfl rfl rfl ?_
    refine Sq.assign .plain rfl rfl ?_
    refine Sq.assign .plain rfl rfl ?_
    refine Sq.nil ?_
    refine Eq.next ?_
    refine Cq.seq ?_
    refine Cq.seq ?_
    refine Cq.region ?_
    refine Sq.move .plain rfl rfl ?_
    refine Sq.partB (fun c23 => ?_) (fun c23 => ?_)
    · refine Sq.notT .plain rfl rfl ?_
      refine Sq.nil ?_
      refine Eq.next ?_
      refine Cq.els rfl ?_
      refine Cq.skip ?_
      refine Eq.next ?_
      refine Cq.region ?_
      refine Sq.move .plain rfl rfl ?_
      refine Sq.move .plain rfl rfl ?_
      refine Sq.app1 sl36 ho (by omega) (by simp; omega) .plain rfl rfl rfl rfl rfl rfl rfl (fun v24 w25 ho27 g26 _ => ?_)
      have hs28 := g26.size
      replace E := E.owned ho g26 (by omega)
      replace ho13 := ho13.owned ho g26 (by decide)
      refine Sq.assign .plain rfl rfl ?_
      refine Sq.nil ?_
      refine Eq.end ?_
      refine Eq.next ?_
      refine Cq.region ?_
      refine Sq.move .plain rfl rfl ?_
      refine Sq.add .plain rfl rfl rfl (by omega) ?_
      refine Sq.assign .plain rfl rfl ?_
      refine Sq.nil ?_
      refine Eq.round _ _ ⟨k + 1, _, _, rfl, by omega, Own.snocI ho27, by simp; omega, E, ho13, rfl⟩ (by omega) (.cons rfl (.cons rfl (.cons rfl (.cons rfl (.nil)))))
    refine Sq.notF .plain rfl rfl ?_
    refine Sq.nil ?_
    refine Eq.next ?_
    refine Cq.thn rfl ?_
    refine Cq.seq ?_
    refine Cq.region ?_
    refine Sq.assign .plain rfl rfl ?_
    refine Sq.assign .plain rfl rfl ?_
    refine Sq.nil ?_
    refine Eq.next ?_
    refine Cq.ret ?_
    refine Eq.pastRet ?_
    refine Eq.outRet ?_
    refine Eq.pastRet ?_
    refine Eq.pastRet ?_
    refine Eq.outRet ?_
    refine Eq.pastRet ?_
    refine Eq.ret2 rfl rfl rfl ?_
    exact ⟨⟨_, _, [], rfl, Own.nil _ _ _, by simp⟩, E⟩
  refine Sq.nil ?_
  refine Eq.next ?_
  refine Cq.els rfl ?_
  refine Cq.exit ?_
  refine Eq.past ?_
  refine Eq.past ?_
  refine Eq.hit ?_
  refine Eq.next ?_
  refine Cq.seq ?_
  refine Cq.region ?_
  refine Sq.move .plain rfl rfl ?_
  refine Sq.assign .plain rfl rfl ?_
  refine Sq.assign .plain rfl rfl ?_
  refine Sq.nil ?_
  refine Eq.next ?_
  refine Cq.ret ?_
  refine Eq.ret2 rfl rfl rfl ?_
  exact ⟨⟨_, _, ys, rfl, ho, by omega⟩, E⟩
set_option maxRecDepth 100000 in
theorem fmtA_c (w0 : World) (a : A) (nx ac : Value) (hnx : Rows w0 36 3 nx a.next) (hac : Bools w0 4 ac a.acc) : Ret Tryz.prog 7 #[Value.agg #[Value.int .i64 a.al, nx, ac]] w0 (fun v w => (∃ s, v = .string s ∧ s.size ≤ 2000) ∧ Ext w0 w) := by
  have E := Ext.refl w0
  refine Ret.of (args := [Value.agg #[Value.int .i64 a.al, nx, ac]]) Tryz.func7 rfl rfl rfl ?_
  rintro _ rfl
  show Cq _ _ _ _ [(0, Value.agg #[Value.int .i64 a.al, nx, ac])] _
  refine Cq.seq ?_
  refine Cq.region ?_
  refine Sq.box .plain rfl rfl (fun b1 w2 e3 hB4 hlo5 => ?_)
  have hd6 := Nat.le_trans (Below.size E) hlo5
  have hs7 := Below.size e3
  replace E := E.trans e3
  refine Sq.assign .plain rfl rfl ?_
  refine Sq.nil ?_
  refine Eq.next ?_
  refine Cq.seq ?_
  refine Cq.seq ?_
  refine Cq.region ?_
  refine Sq.loadAgg agg26 .plain rfl rfl hB4 rfl ?_
  have hd11 := hB4.lt
  refine Sq.call fn8 .plain rfl rfl (sValid_c _ a _ _ (hnx.ext E) (hac.ext E)) ?_
  rintro _ w9 ⟨rfl, e10⟩
  have hs12 := Below.size E
  have hs13 := Below.size e10
  replace E := E.trans e10
  replace hB4 := hB4.ext e10
  refine Sq.partB (fun hv => ?_) (fun hv => ?_)
  · refine Sq.notT .plain rfl rfl ?_
    refine Sq.nil ?_
    refine Eq.next ?_
    refine Cq.els rfl ?_
    refine Cq.skip ?_
    refine Eq.next ?_
    refine Cq.seq ?_
    refine Cq.region ?_
    refine Sq.fieldAddr fld26_0 .plain rfl rfl ?_
    refine Sq.loadB one3 .plain rfl rfl hB4 rfl ?_
    have hd17 := hB4.lt
    refine Sq.call fn19 .plain rfl rfl (fmtAl_c a.al _) ?_
    rintro _ w15 ⟨rfl, e16⟩
    have hs18 := Below.size E
    have hs19 := Below.size e16
    replace E := E.trans e16
    replace hB4 := hB4.ext e16
    refine Sq.assign .plain rfl rfl ?_
    refine Sq.nil ?_
    refine Eq.next ?_
    refine Cq.seq ?_
    refine Cq.seq ?_
    refine Cq.region ?_
    refine Sq.assign .plain rfl rfl ?_
    refine Sq.nil ?_
    refine Eq.next ?_
    refine Cq.block ?_
    have hfs := fmtAl_size a.al
    have hvs := validA_spec.1 hv
    have hv1 := hvs.2.1
    have hv2 := hvs.2.2.1
    refine Cq.loop (fun nn w ls => ∃ (i : Int), ∃ (t : ByteArray), ls = [(1, Value.pointer (some ⟨b1, 0, none⟩)), (3, Value.string t), (4, Value.int .i64 i)] ∧ (0 ≤ i ∧ i ≤ a.next.length) ∧ ((t.size : Int) ≤ 6 + 100 * i) ∧ Ext w0 w ∧ Blk w b1 26 [Value.int .i64 a.al, nx, ac] ∧ nn = ((a.next.length : Int) - i).toNat) _ _ ⟨0, _, rfl, by omega, by omega, E, hB4, rfl⟩ (.cons rfl (.cons rfl (.cons rfl (.nil)))) ?_
    rintro nn wl1 ls ⟨i, t, rfl, hi, ht, E, hB4, rfl⟩
    have hs20 := Below.size E
    have hr6 := valid_row6 hv (k := i.toNat)
    refine Cq.seq ?_
    refine Cq.seq ?_
    refine Cq.region ?_
    refine Sq.move .plain rfl rfl ?_
    refine Sq.fieldAddr fld26_1 .plain rfl rfl ?_
    refine Sq.loadB one23 .plain rfl rfl hB4 rfl ?_
    refine Sq.lenRows (hnx.ext E) .plain rfl und23 rfl ?_
    refine Sq.lss .plain rfl rfl rfl ?_
    refine Sq.part (fun c21 => ?_) (fun c21 => ?_)
    · refine Sq.nil ?_
      refine Eq.next ?_
      refine Cq.thn rfl ?_
      refine Cq.skip ?_
      refine Eq.next ?_
      refine Cq.seq ?_
      refine Cq.block ?_
      refine Cq.seq ?_
      refine Cq.region ?_
      refine Sq.assign .plain rfl rfl ?_
      refine Sq.nil ?_
      refine Eq.next ?_
      refine Cq.seq ?_
      refine Cq.seq ?_
      refine Cq.region ?_
      refine Sq.fieldAddr fld26_2 .plain rfl rfl ?_
      refine Sq.loadB one24 .plain rfl rfl hB4 rfl ?_
      refine Sq.move .plain rfl rfl ?_
      refine Sq.idxBools sl24 one4 (hac.ext E) .plain rfl rfl rfl .plain rfl rfl (by omega) (by omega) ?_
      refine Sq.partB (fun c22 => ?_) (fun c22 => ?_)
      · refine Sq.nil ?_
        refine Eq.next ?_
        refine Cq.thn rfl ?_
        refine Cq.region ?_
        refine Sq.assign .plain rfl rfl ?_
        refine Sq.nil ?_
        refine Eq.next ?_
        refine Cq.seq ?_
        refine Cq.region ?_
        refine Sq.move .plain rfl rfl ?_
        refine Sq.move .plain rfl rfl ?_
        refine Sq.cat .plain rfl rfl rfl (by show t.size + 2 ≤ _; omega) ?_
        refine Sq.assign .plain rfl rfl ?_
        refine Sq.nil ?_
        refine Eq.next ?_
        refine Cq.seq ?_
        refine Cq.region ?_
        refine Sq.assign .plain rfl rfl ?_
        refine Sq.nil ?_
        refine Eq.next ?_
        refine Cq.block ?_
        refine Cq.loop (fun nn w ls => ∃ (k : Int), ∃ (u : ByteArray), ls = [(1, Value.pointer (some ⟨b1, 0, none⟩)), (3, Value.string u), (4, Value.int .i64 i), (6, Value.int .i64 k)] ∧ (0 ≤ k ∧ k ≤ (a.next.getD i.toNat []).length) ∧ ((u.size : Int) ≤ 8 + 100 * i + 15 * k) ∧ Ext w0 w ∧ Blk w b1 26 [Value.int .i64 a.al, nx, ac] ∧ nn = (((a.next.getD i.toNat []).length : Int) - k).toNat) _ _ ⟨0, _, rfl, by omega, by rw [size_cat]; show ((t.size + 2 : Nat) : Int) ≤ _; omega, E, hB4, rfl⟩ (.cons rfl (.cons rfl (.cons rfl (.cons rfl (.nil))))) ?_
        rintro nn wl2 ls ⟨k, u, rfl, hk, hu, E, hB4, rfl⟩
        have hs23 := Below.size E
        have hen := valid_at hv (k := i.toNat) (j := k.toNat)
        refine Cq.seq ?_
        refine Cq.seq ?_
        refine Cq.region ?_
        refine Sq.move .plain rfl rfl ?_
        refine Sq.fieldAddr fld26_1 .plain rfl rfl ?_
        refine Sq.loadB one23 .plain rfl rfl hB4 rfl ?_
        refine Sq.move .plain rfl rfl ?_
        refine Sq.idxRows sl23 one36 (hnx.ext E) .plain rfl rfl rfl .plain rfl rfl (by omega) (by omega) (fun r24 hr25 => ?_)
        refine Sq.lenInts hr25 .plain rfl und36 rfl ?_
        refine Sq.lss .plain rfl rfl rfl ?_
        refine Sq.part (fun c26 => ?_) (fun c26 => ?_)
        · refine Sq.nil ?_
          refine Eq.next ?_
          refine Cq.thn rfl ?_
          refine Cq.skip ?_
          refine Eq.next ?_
          refine Cq.seq ?_
          refine Cq.block ?_
          refine Cq.seq ?_
          refine Cq.seq ?_
          refine Cq.region ?_
          refine Sq.move .plain rfl rfl ?_
          refine Sq.gtr .plain rfl rfl rfl ?_
          refine Sq.part (fun c27 => ?_) (fun c27 => ?_)
          · refine Sq.nil ?_
            refine Eq.next ?_
            refine Cq.thn rfl ?_
            refine Cq.region ?_
            refine Sq.move .plain rfl rfl ?_
            refine Sq.cat .plain rfl rfl rfl (by show u.size + 1 ≤ _; omega) ?_
            refine Sq.assign .plain rfl rfl ?_
            refine Sq.nil ?_
            refine Eq.next ?_
            refine Cq.region ?_
            refine Sq.move .plain rfl rfl ?_
            refine Sq.fieldAddr fld26_1 .plain rfl rfl ?_
            refine Sq.loadB one23 .plain rfl rfl hB4 rfl ?_
            refine Sq.move .plain rfl rfl ?_
            refine Sq.idxRows sl23 one36 (hnx.ext E) .plain rfl rfl rfl .plain rfl rfl (by omega) (by omega) (fun r28 hr29 => ?_)
            refine Sq.move .plain rfl rfl ?_
            refine Sq.idxInts sl36 one3 hr29 .plain rfl rfl rfl .plain rfl rfl (by omega) (by omega) ?_
            have hd35 := hB4.lt
            refine Sq.call fn20 .plain rfl rfl (dec_c ((a.next.getD i.toNat []).getD k.toNat 0) (by have := hen (by omega) (by omega); omega) _) ?_
            rintro _ w31 ⟨⟨s33, rfl, hs34⟩, e32⟩
            have hs36 := Below.size E
            have hs37 := Below.size e32
            replace E := E.trans e32
            replace hB4 := hB4.ext e32
            refine Sq.cat .plain rfl rfl rfl (by (try simp only [size_cat]); first | omega | (show (u.size + 1) + _ ≤ _; omega)) ?_
            refine Sq.assign .plain rfl rfl ?_
            refine Sq.nil ?_
            refine Eq.end ?_
            refine Eq.next ?_
            refine Cq.region ?_
            refine Sq.move .plain rfl rfl ?_
            refine Sq.add .plain rfl rfl rfl (by omega) ?_
            refine Sq.assign .plain rfl rfl ?_
            refine Sq.nil ?_
            refine Eq.round _ _ ⟨k + 1, _, rfl, by omega, by simp only [size_cat]; first | omega | (show ((u.size + 1 + _ : Nat) : Int) ≤ _; omega), E, hB4, rfl⟩ (by omega) (.cons rfl (.cons rfl (.cons rfl (.cons rfl (.nil)))))
          refine Sq.nil ?_
          refine Eq.next ?_
          refine Cq.els rfl ?_
          refine Cq.skip ?_
          refine Eq.next ?_
          refine Cq.region ?_
          refine Sq.move .plain rfl rfl ?_
          refine Sq.fieldAddr fld26_1 .plain rfl rfl ?_
          refine Sq.loadB one23 .plain rfl rfl hB4 rfl ?_
          refine Sq.move .plain rfl rfl ?_
          refine Sq.idxRows sl23 one36 (hnx.ext E) .plain rfl rfl rfl .plain rfl rfl (by omega) (by omega) (fun r38 hr39 => ?_)
          refine Sq.move .plain rfl rfl ?_
          refine Sq.idxInts sl36 one3 hr39 .plain rfl rfl rfl .plain rfl rfl (by omega) (by omega) ?_
          have hd45 := hB4.lt
          refine Sq.call fn20 .plain rfl rfl (dec_c ((a.next.getD i.toNat []).getD k.toNat 0) (by have := hen (by omega) (by omega); omega) _) ?_
          rintro _ w41 ⟨⟨s43, rfl, hs44⟩, e42⟩
          have hs46 := Below.size E
          have hs47 := Below.size e42
          replace E := E.trans e42
          replace hB4 := hB4.ext e42
          refine Sq.cat .plain rfl rfl rfl (by (try simp only [size_cat]); first | omega | (show (u.size + 1) + _ ≤ _; omega)) ?_
          refine Sq.assign .plain rfl rfl ?_
          refine Sq.nil ?_
          refine Eq.end ?_
          refine Eq.next ?_
          refine Cq.region ?_
          refine Sq.move .plain rfl rfl ?_
          refine Sq.add .plain rfl rfl rfl (by omega) ?_
          refine Sq.assign .plain rfl rfl ?_
          refine Sq.nil ?_
          refine Eq.round _ _ ⟨k + 1, _, rfl, by omega, by simp only [size_cat]; first | omega | (show ((u.size + 1 + _ : Nat) : Int) ≤ _; omega), E, hB4, rfl⟩ (by omega) (.cons rfl (.cons rfl (.cons rfl (.cons rfl (.nil)))))
        refine Sq.nil ?_
        refine Eq.next ?_
        refine Cq.els rfl ?_
        refine Cq.exit ?_
        refine Eq.past ?_
        refine Eq.past ?_
        refine Eq.hit ?_
        refine Eq.end ?_
        refine Eq.next ?_
        refine Cq.region ?_
        refine Sq.move .plain rfl rfl ?_
        refine Sq.add .plain rfl rfl rfl (by omega) ?_
        refine Sq.assign .plain rfl rfl ?_
        refine Sq.nil ?_
        refine Eq.round _ _ ⟨i + 1, _, rfl, by omega, by omega, E, hB4, rfl⟩ (by omega) (.cons rfl (.cons rfl (.cons rfl (.nil))))
      refine Sq.nil ?_
      refine Eq.next ?_
      refine Cq.els rfl ?_
      refine Cq.skip ?_
      refine Eq.next ?_
      refine Cq.seq ?_
      refine Cq.region ?_
      refine Sq.move .plain rfl rfl ?_
      refine Sq.move .plain rfl rfl ?_
      refine Sq.cat .plain rfl rfl rfl (by show t.size + 2 ≤ _; omega) ?_
      refine Sq.assign .plain rfl rfl ?_
      refine Sq.nil ?_
      refine Eq.next ?_
      refine Cq.seq ?_
      refine Cq.region ?_
      refine Sq.assign .plain rfl rfl ?_
      refine Sq.nil ?_
      refine Eq.next ?_
      refine Cq.block ?_
      refine Cq.loop (fun nn w ls => ∃ (k : Int), ∃ (u : ByteArray), ls = [(1, Value.pointer (some ⟨b1, 0, none⟩)), (3, Value.string u), (4, Value.int .i64 i), (6, Value.int .i64 k)] ∧ (0 ≤ k ∧ k ≤ (a.next.getD i.toNat []).length) ∧ ((u.size : Int) ≤ 8 + 100 * i + 15 * k) ∧ Ext w0 w ∧ Blk w b1 26 [Value.int .i64 a.al, nx, ac] ∧ nn = (((a.next.getD i.toNat []).length : Int) - k).toNat) _ _ ⟨0, _, rfl, by omega, by rw [size_cat]; show ((t.size + 2 : Nat) : Int) ≤ _; omega, E, hB4, rfl⟩ (.cons rfl (.cons rfl (.cons rfl (.cons rfl (.nil))))) ?_
      rintro nn wl2 ls ⟨k, u, rfl, hk, hu, E, hB4, rfl⟩
      have hs48 := Below.size E
      have hen := valid_at hv (k := i.toNat) (j := k.toNat)
      refine Cq.seq ?_
      refine Cq.seq ?_
      refine Cq.region ?_
      refine Sq.move .plain rfl rfl ?_
      refine Sq.fieldAddr fld26_1 .plain rfl rfl ?_
      refine Sq.loadB one23 .plain rfl rfl hB4 rfl ?_
      refine Sq.move .plain rfl rfl ?_
      refine Sq.idxRows sl23 one36 (hnx.ext E) .plain rfl rfl rfl .plain rfl rfl (by omega) (by omega) (fun r49 hr50 => ?_)
      refine Sq.lenInts hr50 .plain rfl und36 rfl ?_
      refine Sq.lss .plain rfl rfl rfl ?_
      refine Sq.part (fun c51 => ?_) (fun c51 => ?_)
      · refine Sq.nil ?_
        refine Eq.next ?_
        refine Cq.thn rfl ?_
        refine Cq.skip ?_
        refine Eq.next ?_
        refine Cq.seq ?_
        refine Cq.block ?_
        refine Cq.seq ?_
        refine Cq.seq ?_
        refine Cq.region ?_
        refine Sq.move .plain rfl rfl ?_
        refine Sq.gtr .plain rfl rfl rfl ?_
        refine Sq.part (fun c52 => ?_) (fun c52 => ?_)
        · refine Sq.nil ?_
          refine Eq.next ?_
          refine Cq.thn rfl ?_
          refine Cq.region ?_
          refine Sq.move .plain rfl rfl ?_
          refine Sq.cat .plain rfl rfl rfl (by show u.size + 1 ≤ _; omega) ?_
          refine Sq.assign .plain rfl rfl ?_
          refine Sq.nil ?_
          refine Eq.next ?_
          refine Cq.region ?_
          refine Sq.move .plain rfl rfl ?_
          refine Sq.fieldAddr fld26_1 .plain rfl rfl ?_
          refine Sq.loadB one23 .plain rfl rfl hB4 rfl ?_
          refine Sq.move .plain rfl rfl ?_
          refine Sq.idxRows sl23 one36 (hnx.ext E) .plain rfl rfl rfl .plain rfl rfl (by omega) (by omega) (fun r53 hr54 => ?_)
          refine Sq.move .plain rfl rfl ?_
          refine Sq.idxInts sl36 one3 hr54 .plain rfl rfl rfl .plain rfl rfl (by omega) (by omega) ?_
          have hd60 := hB4.lt
          refine Sq.call fn20 .plain rfl rfl (dec_c ((a.next.getD i.toNat []).getD k.toNat 0) (by have := hen (by omega) (by omega); omega) _) ?_
          rintro _ w56 ⟨⟨s58, rfl, hs59⟩, e57⟩
          have hs61 := Below.size E
          have hs62 := Below.size e57
          replace E := E.trans e57
          replace hB4 := hB4.ext e57
          refine Sq.cat .plain rfl rfl rfl (by (try simp only [size_cat]); first | omega | (show (u.size + 1) + _ ≤ _; omega)) ?_
          refine Sq.assign .plain rfl rfl ?_
          refine Sq.nil ?_
          refine Eq.end ?_
          refine Eq.next ?_
          refine Cq.region ?_
          refine Sq.move .plain rfl rfl ?_
          refine Sq.add .plain rfl rfl rfl (by omega) ?_
          refine Sq.assign .plain rfl rfl ?_
          refine Sq.nil ?_
          refine Eq.round _ _ ⟨k + 1, _, rfl, by omega, by simp only [size_cat]; first | omega | (show ((u.size + 1 + _ : Nat) : Int) ≤ _; omega), E, hB4, rfl⟩ (by omega) (.cons rfl (.cons rfl (.cons rfl (.cons rfl (.nil)))))
        refine Sq.nil ?_
        refine Eq.next ?_
        refine Cq.els rfl ?_
        refine Cq.skip ?_
        refine Eq.next ?_
        refine Cq.region ?_
        refine Sq.move .plain rfl rfl ?_
        refine Sq.fieldAddr fld26_1 .plain rfl rfl ?_
        refine Sq.loadB one23 .plain rfl rfl hB4 rfl ?_
        refine Sq.move .plain rfl rfl ?_
        refine Sq.idxRows sl23 one36 (hnx.ext E) .plain rfl rfl rfl .plain rfl rfl (by omega) (by omega) (fun r63 hr64 => ?_)
        refine Sq.move .plain rfl rfl ?_
        refine Sq.idxInts sl36 one3 hr64 .plain rfl rfl rfl .plain rfl rfl (by omega) (by omega) ?_
        have hd70 := hB4.lt
        refine Sq.call fn20 .plain rfl rfl (dec_c ((a.next.getD i.toNat []).getD k.toNat 0) (by have := hen (by omega) (by omega); omega) _) ?_
        rintro _ w66 ⟨⟨s68, rfl, hs69⟩, e67⟩
        have hs71 := Below.size E
        have hs72 := Below.size e67
        replace E := E.trans e67
        replace hB4 := hB4.ext e67
        refine Sq.cat .plain rfl rfl rfl (by (try simp only [size_cat]); first | omega | (show (u.size + 1) + _ ≤ _; omega)) ?_
        refine Sq.assign .plain rfl rfl ?_
        refine Sq.nil ?_
        refine Eq.end ?_
        refine Eq.next ?_
        refine Cq.region ?_
        refine Sq.move .plain rfl rfl ?_
        refine Sq.add .plain rfl rfl rfl (by omega) ?_
        refine Sq.assign .plain rfl rfl ?_
        refine Sq.nil ?_
        refine Eq.round _ _ ⟨k + 1, _, rfl, by omega, by simp only [size_cat]; first | omega | (show ((u.size + 1 + _ : Nat) : Int) ≤ _; omega), E, hB4, rfl⟩ (by omega) (.cons rfl (.cons rfl (.cons rfl (.cons rfl (.nil)))))
      refine Sq.nil ?_
      refine Eq.next ?_
      refine Cq.els rfl ?_
      refine Cq.exit ?_
      refine Eq.past ?_
      refine Eq.past ?_
      refine Eq.hit ?_
      refine Eq.end ?_
      refine Eq.next ?_
      refine Cq.region ?_
      refine Sq.move .plain rfl rfl ?_
      refine Sq.add .plain rfl rfl rfl (by omega) ?_
      refine Sq.assign .plain rfl rfl ?_
      refine Sq.nil ?_
      refine Eq.round _ _ ⟨i + 1, _, rfl, by omega, by omega, E, hB4, rfl⟩ (by omega) (.cons rfl (.cons rfl (.cons rfl (.nil))))
    refine Sq.nil ?_
    refine Eq.next ?_
    refine Cq.els rfl ?_
    refine Cq.exit ?_
    refine Eq.past ?_
    refine Eq.past ?_
    refine Eq.hit ?_
    refine Eq.next ?_
    refine Cq.seq ?_
    refine Cq.region ?_
    refine Sq.move .plain rfl rfl ?_
    refine Sq.assign .plain rfl rfl ?_
    refine Sq.nil ?_
    refine Eq.next ?_
    refine Cq.ret ?_
    refine Eq.ret1 rfl rfl ?_
    exact ⟨⟨_, rfl, by first | (show 0 ≤ 2000; omega) | omega⟩, E⟩
  refine Sq.notF .plain rfl rfl ?_
  refine Sq.nil ?_
  refine Eq.next ?_
  refine Cq.thn rfl ?_
  refine Cq.seq ?_
  refine Cq.region ?_
  refine Sq.assign .plain rfl rfl ?_
  refine Sq.nil ?_
  refine Eq.next ?_
  refine Cq.ret ?_
  refine Eq.pastRet ?_
  refine Eq.ret1 rfl rfl ?_
  exact ⟨⟨_, rfl, by first | (show 0 ≤ 2000; omega) | omega⟩, E⟩
end Go.Proofs.YtnckpafknojdhaaGreatDoor
set_option linter.unusedSimpArgs false
set_option linter.unusedVariables false
namespace Go.Proofs.YtnckpafknojdhaaGreatDoor
open Go.RowKit
set_option maxRecDepth 100000 in
theorem dec2_c (n : Int) (hn : 0 ≤ n ∧ n < 100) (w0 : World) : Ret Tryz.prog 20 #[Value.int .i64 n] w0 (fun v w => v = .string (itoa n) ∧ Ext w0 w) := by
  have E := Ext.refl w0
  refine Ret.of (args := [Value.int .i64 n]) Tryz.func20 rfl rfl rfl ?_
  rintro _ rfl
  show Cq _ _ _ _ [(0, Value.int .i64 n)] _
  refine Cq.seq ?_
  refine Cq.region ?_
  refine Sq.assign .plain rfl rfl ?_
  refine Sq.nil ?_
  refine Eq.next ?_
  refine Cq.seq ?_
  refine Cq.seq ?_
  refine Cq.region ?_
  refine Sq.move .plain rfl rfl ?_
  refine Sq.lss .plain rfl rfl rfl ?_
  refine Sq.isF (by omega) ?_
  refine Sq.nil ?_
  refine Eq.next ?_
  refine Cq.els rfl ?_
  refine Cq.skip ?_
  refine Eq.next ?_
  refine Cq.seq ?_
  refine Cq.seq ?_
  refine Cq.region ?_
  refine Sq.move .plain rfl rfl ?_
  refine Sq.lss .plain rfl rfl rfl ?_
  refine Sq.isF (by omega) ?_
  refine Sq.nil ?_
  refine Eq.next ?_
  refine Cq.els rfl ?_
  refine Cq.skip ?_
  refine Eq.next ?_
  refine Cq.seq ?_
  refine Cq.region ?_
  refine Sq.assign .plain rfl rfl ?_
  refine Sq.nil ?_
  refine Eq.next ?_
  refine Cq.seq ?_
  refine Cq.block ?_
  refine Cq.loop (fun nn w ls => ∃ (m : Int), ∃ (t : ByteArray), ls = [(0, Value.int .i64 m), (3, Value.string t)] ∧ (0 ≤ m ∧ m ≤ n) ∧ DecI n m t ∧ Ext w0 w ∧ nn = m.toNat) _ _ ⟨_, _, rfl, by omega, DecI.start n, E, rfl⟩ (.cons rfl (.cons rfl (.nil))) ?_
  rintro nn wl1 ls ⟨m, t, rfl, hm, hd, E, rfl⟩
  have hs1 := Below.size E
  have hts := hd.size
  refine Cq.seq ?_
  refine Cq.seq ?_
  refine Cq.region ?_
  refine Sq.move .plain rfl rfl ?_
  refine Sq.gtr .plain rfl rfl rfl ?_
  refine Sq.part (fun c2 => ?_) (fun c2 => ?_)
  · refine Sq.nil ?_
    refine Eq.next ?_
    refine Cq.thn rfl ?_
    refine Cq.skip ?_
    refine Eq.next ?_
    refine Cq.block ?_
    refine Cq.seq ?_
    refine Cq.region ?_
    refine Sq.move .plain rfl rfl ?_
    refine Sq.rem .plain rfl rfl rfl (by omega) ?_
    refine Sq.add .plain rfl rfl rfl (by omega) ?_
    refine Sq.conv8 conv3_5 .plain rfl rfl (by omega) ?_
    refine Sq.lit sl22 rfl rfl .plain rfl rfl (one_cons rfl one_nil) (fun b3 w4 e5 hlo6 ho7 _ => ?_)
    replace ho7 := ho7 wl1.heap.size (Nat.le_refl _)
    have hs9 := Below.size e5
    replace E := E.trans e5
    refine Sq.val .plain rfl rfl (Still.text1 und22 und8_22 und9 ho7 (by omega) rfl) ?_
    refine Sq.move .plain rfl rfl ?_
    refine Sq.cat .plain rfl rfl rfl (by show (1 + t.size : Nat) ≤ _; omega) ?_
    refine Sq.assign .plain rfl rfl ?_
    refine Sq.nil ?_
    refine Eq.next ?_
    refine Cq.region ?_
    refine Sq.move .plain rfl rfl ?_
    refine Sq.quo .plain rfl rfl rfl (by omega) ?_
    refine Sq.assign .plain rfl rfl ?_
    refine Sq.nil ?_
    refine Eq.end ?_
    refine Eq.round _ _ ⟨_, _, rfl, by omega, hd.step hn (by omega), E, rfl⟩ (by omega) (.cons rfl (.cons rfl (.nil)))
  refine Sq.nil ?_
  refine Eq.next ?_
  refine Cq.els rfl ?_
  refine Cq.exit ?_
  refine Eq.past ?_
  refine Eq.past ?_
  refine Eq.hit ?_
  refine Eq.next ?_
  refine Cq.seq ?_
  refine Cq.region ?_
  refine Sq.move .plain rfl rfl ?_
  refine Sq.add .plain rfl rfl rfl (by omega) ?_
  refine Sq.conv8 conv3_5 .plain rfl rfl (by omega) ?_
  refine Sq.lit sl22 rfl rfl .plain rfl rfl (one_cons rfl one_nil) (fun b10 w11 e12 hlo13 ho14 _ => ?_)
  replace ho14 := ho14 wl1.heap.size (Nat.le_refl _)
  have hs16 := Below.size e12
  replace E := E.trans e12
  refine Sq.val .plain rfl rfl (Still.text1 und22 und8_22 und9 ho14 (by omega) rfl) ?_
  refine Sq.move .plain rfl rfl ?_
  refine Sq.cat .plain rfl rfl rfl (by show (1 + t.size : Nat) ≤ _; omega) ?_
  refine Sq.assign .plain rfl rfl ?_
  refine Sq.nil ?_
  refine Eq.next ?_
  refine Cq.ret ?_
  refine Eq.ret1 rfl rfl ?_
  exact ⟨congrArg Value.string (hd.done hn (by omega)), E⟩
set_option maxRecDepth 100000 in
theorem fmtV_c (w0 : World) (a : A) (nx ac : Value) (hnx : Rows w0 36 3 nx a.next) (hac : Bools w0 4 ac a.acc) : Ret Tryz.prog 7 #[Value.agg #[Value.int .i64 a.al, nx, ac]] w0 (fun v w => v = .string (fmtV a) ∧ Ext w0 w) := by
  have E := Ext.refl w0
  refine Ret.of (args := [Value.agg #[Value.int .i64 a.al, nx, ac]]) Tryz.func7 rfl rfl rfl ?_
  rintro _ rfl
  show Cq _ _ _ _ [(0, Value.agg #[Value.int .i64 a.al, nx, ac])] _
  refine Cq.seq ?_
  refine Cq.region ?_
  refine Sq.box .plain rfl rfl (fun b1 w2 e3 hB4 hlo5 => ?_)
  have hd6 := Nat.le_trans (Below.size E) hlo5
  have hs7 := Below.size e3
  replace E := E.trans e3
  refine Sq.assign .plain rfl rfl ?_
  refine Sq.nil ?_
  refine Eq.next ?_
  refine Cq.seq ?_
  refine Cq.seq ?_
  refine Cq.region ?_
  refine Sq.loadAgg agg26 .plain rfl rfl hB4 rfl ?_
  have hd11 := hB4.lt
  refine Sq.call fn8 .plain rfl rfl (sValid_c _ a _ _ (hnx.ext E) (hac.ext E)) ?_
  rintro _ w9 ⟨rfl, e10⟩
  have hs12 := Below.size E
  have hs13 := Below.size e10
  replace E := E.trans e10
  replace hB4 := hB4.ext e10
  refine Sq.partB (fun hv => ?_) (fun hv => ?_)
  · refine Sq.notT .plain rfl rfl ?_
    refine Sq.nil ?_
    refine Eq.next ?_
    refine Cq.els rfl ?_
    refine Cq.skip ?_
    refine Eq.next ?_
    refine Cq.seq ?_
    refine Cq.region ?_
    refine Sq.fieldAddr fld26_0 .plain rfl rfl ?_
    refine Sq.loadB one3 .plain rfl rfl hB4 rfl ?_
    have hd17 := hB4.lt
    refine Sq.call fn19 .plain rfl rfl (fmtAl_c a.al _) ?_
    rintro _ w15 ⟨rfl, e16⟩
    have hs18 := Below.size E
    have hs19 := Below.size e16
    replace E := E.trans e16
    replace hB4 := hB4.ext e16
    refine Sq.assign .plain rfl rfl ?_
    refine Sq.nil ?_
    refine Eq.next ?_
    refine Cq.seq ?_
    refine Cq.seq ?_
    refine Cq.region ?_
    refine Sq.assign .plain rfl rfl ?_
    refine Sq.nil ?_
    refine Eq.next ?_
    refine Cq.block ?_
    have hvs := validA_spec.1 hv
    have hv1 := hvs.2.1
    have hv2 := hvs.2.2.1
    have hl6 := letters_len6 a.al
    refine Cq.loop (fun nn w ls => ∃ (i : Int), ∃ (t : ByteArray), ls = [(1, Value.pointer (some ⟨b1, 0, none⟩)), (3, Value.string t), (4, Value.int .i64 i)] ∧ (0 ≤ i ∧ i ≤ a.next.length) ∧ t = fmtFrom a i.toNat ∧ Ext w0 w ∧ Blk w b1 26 [Value.int .i64 a.al, nx, ac] ∧ nn = ((a.next.length : Int) - i).toNat) _ _ ⟨0, _, rfl, by omega, rfl, E, hB4, rfl⟩ (.cons rfl (.cons rfl (.cons rfl (.nil)))) ?_
    rintro nn wl1 ls ⟨i, t, rfl, hi, ht, E, hB4, rfl⟩
    have hs20 := Below.size E
    have hts := fmtFrom_size hv i.toNat (by omega)
    rw [← ht] at hts
    refine Cq.seq ?_
    refine Cq.seq ?_
    refine Cq.region ?_
    refine Sq.move .plain rfl rfl ?_
    refine Sq.fieldAddr fld26_1 .plain rfl rfl ?_
    refine Sq.loadB one23 .plain rfl rfl hB4 rfl ?_
    refine Sq.lenRows (hnx.ext E) .plain rfl und23 rfl ?_
    refine Sq.lss .plain rfl rfl rfl ?_
    refine Sq.part (fun c21 => ?_) (fun c21 => ?_)
    · refine Sq.nil ?_
      refine Eq.next ?_
      refine Cq.thn rfl ?_
      refine Cq.skip ?_
      refine Eq.next ?_
      refine Cq.seq ?_
      refine Cq.block ?_
      refine Cq.seq ?_
      refine Cq.region ?_
      refine Sq.assign .plain rfl rfl ?_
      refine Sq.nil ?_
      refine Eq.next ?_
      refine Cq.seq ?_
      refine Cq.seq ?_
      refine Cq.region ?_
      refine Sq.fieldAddr fld26_2 .plain rfl rfl ?_
      refine Sq.loadB one24 .plain rfl rfl hB4 rfl ?_
      refine Sq.move .plain rfl rfl ?_
      refine Sq.idxBools sl24 one4 (hac.ext E) .plain rfl rfl rfl .plain rfl rfl (by omega) (by omega) ?_
      refine Sq.partB (fun hac => ?_) (fun hac => ?_)
      · refine Sq.nil ?_
        refine Eq.next ?_
        refine Cq.thn rfl ?_
        refine Cq.region ?_
        refine Sq.assign .plain rfl rfl ?_
        refine Sq.nil ?_
        refine Eq.next ?_
        refine Cq.seq ?_
        refine Cq.region ?_
        refine Sq.move .plain rfl rfl ?_
        refine Sq.move .plain rfl rfl ?_
        refine Sq.cat .plain rfl rfl rfl (by show t.size + 2 ≤ _; omega) ?_
        refine Sq.assign .plain rfl rfl ?_
        refine Sq.nil ?_
        refine Eq.next ?_
        refine Cq.seq ?_
        refine Cq.region ?_
        refine Sq.assign .plain rfl rfl ?_
        refine Sq.nil ?_
        refine Eq.next ?_
        refine Cq.block ?_
        have hrl := valid_row hv (k := i.toNat) (by omega)
        refine Cq.loop (fun nn w ls => ∃ (k : Int), ∃ (u : ByteArray), ls = [(1, Value.pointer (some ⟨b1, 0, none⟩)), (3, Value.string u), (4, Value.int .i64 i), (6, Value.int .i64 k)] ∧ (0 ≤ k ∧ k ≤ (a.next.getD i.toNat []).length) ∧ u = rowFrom (t ++ (markT (a.acc.getD i.toNat false))) (a.next.getD i.toNat []) k.toNat ∧ Ext w0 w ∧ Blk w b1 26 [Value.int .i64 a.al, nx, ac] ∧ nn = (((a.next.getD i.toNat []).length : Int) - k).toNat) _ _ ⟨0, _, rfl, by omega, by show _ = t ++ markT _; rw [hac]; rfl, E, hB4, rfl⟩ (.cons rfl (.cons rfl (.cons rfl (.cons rfl (.nil))))) ?_
        rintro nn wl2 ls ⟨k, u, rfl, hk, hu, E, hB4, rfl⟩
        have hs22 := Below.size E
        have hen := valid_at hv (k := i.toNat) (j := k.toNat)
        have hus := rowFrom_size (t ++ (markT (a.acc.getD i.toNat false))) (a.next.getD i.toNat []) k.toNat
        rw [← hu, size_cat, markT_size] at hus
        refine Cq.seq ?_
        refine Cq.seq ?_
        refine Cq.region ?_
        refine Sq.move .plain rfl rfl ?_
        refine Sq.fieldAddr fld26_1 .plain rfl rfl ?_
        refine Sq.loadB one23 .plain rfl rfl hB4 rfl ?_
        refine Sq.move .plain rfl rfl ?_
        refine Sq.idxRows sl23 one36 (hnx.ext E) .plain rfl rfl rfl .plain rfl rfl (by omega) (by omega) (fun r23 hr24 => ?_)
        refine Sq.lenInts hr24 .plain rfl und36 rfl ?_
        refine Sq.lss .plain rfl rfl rfl ?_
        refine Sq.part (fun c25 => ?_) (fun c25 => ?_)
        · refine Sq.nil ?_
          refine Eq.next ?_
          refine Cq.thn rfl ?_
          refine Cq.skip ?_
          refine Eq.next ?_
          refine Cq.seq ?_
          refine Cq.block ?_
          refine Cq.seq ?_
          refine Cq.seq ?_
          refine Cq.region ?_
          refine Sq.move .plain rfl rfl ?_
          refine Sq.gtr .plain rfl rfl rfl ?_
          refine Sq.part (fun hk0 => ?_) (fun hk0 => ?_)
          · refine Sq.nil ?_
            refine Eq.next ?_
            refine Cq.thn rfl ?_
            refine Cq.region ?_
            refine Sq.move .plain rfl rfl ?_
            refine Sq.cat .plain rfl rfl rfl (by show u.size + 1 ≤ _; omega) ?_
            refine Sq.assign .plain rfl rfl ?_
            refine Sq.nil ?_
            refine Eq.next ?_
            refine Cq.region ?_
            refine Sq.move .plain rfl rfl ?_
            refine Sq.fieldAddr fld26_1 .plain rfl rfl ?_
            refine Sq.loadB one23 .plain rfl rfl hB4 rfl ?_
            refine Sq.move .plain rfl rfl ?_
            refine Sq.idxRows sl23 one36 (hnx.ext E) .plain rfl rfl rfl .plain rfl rfl (by omega) (by omega) (fun r26 hr27 => ?_)
            refine Sq.move .plain rfl rfl ?_
            refine Sq.idxInts sl36 one3 hr27 .plain rfl rfl rfl .plain rfl rfl (by omega) (by omega) ?_
            have hd31 := hB4.lt
            refine Sq.call fn20 .plain rfl rfl (dec2_c ((a.next.getD i.toNat []).getD k.toNat 0) (by have := hen (by omega) (by omega); omega) _) ?_
            rintro _ w29 ⟨rfl, e30⟩
            have hs32 := Below.size E
            have hs33 := Below.size e30
            replace E := E.trans e30
            replace hB4 := hB4.ext e30
            have hz := itoa_size ((a.next.getD i.toNat []).getD k.toNat 0)
            refine Sq.cat .plain rfl rfl rfl (by (try rw [size_cat]); first | omega | (show (u.size + 1) + _ ≤ _; omega)) ?_
            refine Sq.assign .plain rfl rfl ?_
            refine Sq.nil ?_
            refine Eq.end ?_
            refine Eq.next ?_
            refine Cq.region ?_
            refine Sq.move .plain rfl rfl ?_
            refine Sq.add .plain rfl rfl rfl (by omega) ?_
            refine Sq.assign .plain rfl rfl ?_
            refine Sq.nil ?_
            have e2 := toNat_succ hk.1
            refine Eq.round _ _ ⟨k + 1, _, rfl, by omega, by rw [e2, rowFrom_T (by omega), hu], E, hB4, rfl⟩ (by omega) (.cons rfl (.cons rfl (.cons rfl (.cons rfl (.nil)))))
          refine Sq.nil ?_
          refine Eq.next ?_
          refine Cq.els rfl ?_
          refine Cq.skip ?_
          refine Eq.next ?_
          refine Cq.region ?_
          refine Sq.move .plain rfl rfl ?_
          refine Sq.fieldAddr fld26_1 .plain rfl rfl ?_
          refine Sq.loadB one23 .plain rfl rfl hB4 rfl ?_
          refine Sq.move .plain rfl rfl ?_
          refine Sq.idxRows sl23 one36 (hnx.ext E) .plain rfl rfl rfl .plain rfl rfl (by omega) (by omega) (fun r34 hr35 => ?_)
          refine Sq.move .plain rfl rfl ?_
          refine Sq.idxInts sl36 one3 hr35 .plain rfl rfl rfl .plain rfl rfl (by omega) (by omega) ?_
          have hd39 := hB4.lt
          refine Sq.call fn20 .plain rfl rfl (dec2_c ((a.next.getD i.toNat []).getD k.toNat 0) (by have := hen (by omega) (by omega); omega) _) ?_
          rintro _ w37 ⟨rfl, e38⟩
          have hs40 := Below.size E
          have hs41 := Below.size e38
          replace E := E.trans e38
          replace hB4 := hB4.ext e38
          have hz := itoa_size ((a.next.getD i.toNat []).getD k.toNat 0)
          refine Sq.cat .plain rfl rfl rfl (by (try rw [size_cat]); first | omega | (show (u.size + 1) + _ ≤ _; omega)) ?_
          refine Sq.assign .plain rfl rfl ?_
          refine Sq.nil ?_
          refine Eq.end ?_
          refine Eq.next ?_
          refine Cq.region ?_
          refine Sq.move .plain rfl rfl ?_
          refine Sq.add .plain rfl rfl rfl (by omega) ?_
          refine Sq.assign .plain rfl rfl ?_
          refine Sq.nil ?_
          have e2 := toNat_succ hk.1
          refine Eq.round _ _ ⟨k + 1, _, rfl, by omega, by rw [e2, rowFrom_F (by omega), hu], E, hB4, rfl⟩ (by omega) (.cons rfl (.cons rfl (.cons rfl (.cons rfl (.nil)))))
        refine Sq.nil ?_
        refine Eq.next ?_
        refine Cq.els rfl ?_
        refine Cq.exit ?_
        refine Eq.past ?_
        refine Eq.past ?_
        refine Eq.hit ?_
        refine Eq.end ?_
        refine Eq.next ?_
        refine Cq.region ?_
        refine Sq.move .plain rfl rfl ?_
        refine Sq.add .plain rfl rfl rfl (by omega) ?_
        refine Sq.assign .plain rfl rfl ?_
        refine Sq.nil ?_
        have e1 := toNat_succ hi.1
        refine Eq.round _ _ ⟨i + 1, _, rfl, by omega, by rw [e1, fmtFrom, ← ht, hu, show k.toNat = (a.next.getD i.toNat []).length by omega], E, hB4, rfl⟩ (by omega) (.cons rfl (.cons rfl (.cons rfl (.nil))))
      refine Sq.nil ?_
      refine Eq.next ?_
      refine Cq.els rfl ?_
      refine Cq.skip ?_
      refine Eq.next ?_
      refine Cq.seq ?_
      refine Cq.region ?_
      refine Sq.move .plain rfl rfl ?_
      refine Sq.move .plain rfl rfl ?_
      refine Sq.cat .plain rfl rfl rfl (by show t.size + 2 ≤ _; omega) ?_
      refine Sq.assign .plain rfl rfl ?_
      refine Sq.nil ?_
      refine Eq.next ?_
      refine Cq.seq ?_
      refine Cq.region ?_
      refine Sq.assign .plain rfl rfl ?_
      refine Sq.nil ?_
      refine Eq.next ?_
      refine Cq.block ?_
      have hrl := valid_row hv (k := i.toNat) (by omega)
      refine Cq.loop (fun nn w ls => ∃ (k : Int), ∃ (u : ByteArray), ls = [(1, Value.pointer (some ⟨b1, 0, none⟩)), (3, Value.string u), (4, Value.int .i64 i), (6, Value.int .i64 k)] ∧ (0 ≤ k ∧ k ≤ (a.next.getD i.toNat []).length) ∧ u = rowFrom (t ++ (markT (a.acc.getD i.toNat false))) (a.next.getD i.toNat []) k.toNat ∧ Ext w0 w ∧ Blk w b1 26 [Value.int .i64 a.al, nx, ac] ∧ nn = (((a.next.getD i.toNat []).length : Int) - k).toNat) _ _ ⟨0, _, rfl, by omega, by show _ = t ++ markT _; rw [hac]; rfl, E, hB4, rfl⟩ (.cons rfl (.cons rfl (.cons rfl (.cons rfl (.nil))))) ?_
      rintro nn wl2 ls ⟨k, u, rfl, hk, hu, E, hB4, rfl⟩
      have hs42 := Below.size E
      have hen := valid_at hv (k := i.toNat) (j := k.toNat)
      have hus := rowFrom_size (t ++ (markT (a.acc.getD i.toNat false))) (a.next.getD i.toNat []) k.toNat
      rw [← hu, size_cat, markT_size] at hus
      refine Cq.seq ?_
      refine Cq.seq ?_
      refine Cq.region ?_
      refine Sq.move .plain rfl rfl ?_
      refine Sq.fieldAddr fld26_1 .plain rfl rfl ?_
      refine Sq.loadB one23 .plain rfl rfl hB4 rfl ?_
      refine Sq.move .plain rfl rfl ?_
      refine Sq.idxRows sl23 one36 (hnx.ext E) .plain rfl rfl rfl .plain rfl rfl (by omega) (by omega) (fun r43 hr44 => ?_)
      refine Sq.lenInts hr44 .plain rfl und36 rfl ?_
      refine Sq.lss .plain rfl rfl rfl ?_
      refine Sq.part (fun c45 => ?_) (fun c45 => ?_)
      · refine Sq.nil ?_
        refine Eq.next ?_
        refine Cq.thn rfl ?_
        refine Cq.skip ?_
        refine Eq.next ?_
        refine Cq.seq ?_
        refine Cq.block ?_
        refine Cq.seq ?_
        refine Cq.seq ?_
        refine Cq.region ?_
        refine Sq.move .plain rfl rfl ?_
        refine Sq.gtr .plain rfl rfl rfl ?_
        refine Sq.part (fun hk0 => ?_) (fun hk0 => ?_)
        · refine Sq.nil ?_
          refine Eq.next ?_
          refine Cq.thn rfl ?_
          refine Cq.region ?_
          refine Sq.move .plain rfl rfl ?_
          refine Sq.cat .plain rfl rfl rfl (by show u.size + 1 ≤ _; omega) ?_
          refine Sq.assign .plain rfl rfl ?_
          refine Sq.nil ?_
          refine Eq.next ?_
          refine Cq.region ?_
          refine Sq.move .plain rfl rfl ?_
          refine Sq.fieldAddr fld26_1 .plain rfl rfl ?_
          refine Sq.loadB one23 .plain rfl rfl hB4 rfl ?_
          refine Sq.move .plain rfl rfl ?_
          refine Sq.idxRows sl23 one36 (hnx.ext E) .plain rfl rfl rfl .plain rfl rfl (by omega) (by omega) (fun r46 hr47 => ?_)
          refine Sq.move .plain rfl rfl ?_
          refine Sq.idxInts sl36 one3 hr47 .plain rfl rfl rfl .plain rfl rfl (by omega) (by omega) ?_
          have hd51 := hB4.lt
          refine Sq.call fn20 .plain rfl rfl (dec2_c ((a.next.getD i.toNat []).getD k.toNat 0) (by have := hen (by omega) (by omega); omega) _) ?_
          rintro _ w49 ⟨rfl, e50⟩
          have hs52 := Below.size E
          have hs53 := Below.size e50
          replace E := E.trans e50
          replace hB4 := hB4.ext e50
          have hz := itoa_size ((a.next.getD i.toNat []).getD k.toNat 0)
          refine Sq.cat .plain rfl rfl rfl (by (try rw [size_cat]); first | omega | (show (u.size + 1) + _ ≤ _; omega)) ?_
          refine Sq.assign .plain rfl rfl ?_
          refine Sq.nil ?_
          refine Eq.end ?_
          refine Eq.next ?_
          refine Cq.region ?_
          refine Sq.move .plain rfl rfl ?_
          refine Sq.add .plain rfl rfl rfl (by omega) ?_
          refine Sq.assign .plain rfl rfl ?_
          refine Sq.nil ?_
          have e2 := toNat_succ hk.1
          refine Eq.round _ _ ⟨k + 1, _, rfl, by omega, by rw [e2, rowFrom_T (by omega), hu], E, hB4, rfl⟩ (by omega) (.cons rfl (.cons rfl (.cons rfl (.cons rfl (.nil)))))
        refine Sq.nil ?_
        refine Eq.next ?_
        refine Cq.els rfl ?_
        refine Cq.skip ?_
        refine Eq.next ?_
        refine Cq.region ?_
        refine Sq.move .plain rfl rfl ?_
        refine Sq.fieldAddr fld26_1 .plain rfl rfl ?_
        refine Sq.loadB one23 .plain rfl rfl hB4 rfl ?_
        refine Sq.move .plain rfl rfl ?_
        refine Sq.idxRows sl23 one36 (hnx.ext E) .plain rfl rfl rfl .plain rfl rfl (by omega) (by omega) (fun r54 hr55 => ?_)
        refine Sq.move .plain rfl rfl ?_
        refine Sq.idxInts sl36 one3 hr55 .plain rfl rfl rfl .plain rfl rfl (by omega) (by omega) ?_
        have hd59 := hB4.lt
        refine Sq.call fn20 .plain rfl rfl (dec2_c ((a.next.getD i.toNat []).getD k.toNat 0) (by have := hen (by omega) (by omega); omega) _) ?_
        rintro _ w57 ⟨rfl, e58⟩
        have hs60 := Below.size E
        have hs61 := Below.size e58
        replace E := E.trans e58
        replace hB4 := hB4.ext e58
        have hz := itoa_size ((a.next.getD i.toNat []).getD k.toNat 0)
        refine Sq.cat .plain rfl rfl rfl (by (try rw [size_cat]); first | omega | (show (u.size + 1) + _ ≤ _; omega)) ?_
        refine Sq.assign .plain rfl rfl ?_
        refine Sq.nil ?_
        refine Eq.end ?_
        refine Eq.next ?_
        refine Cq.region ?_
        refine Sq.move .plain rfl rfl ?_
        refine Sq.add .plain rfl rfl rfl (by omega) ?_
        refine Sq.assign .plain rfl rfl ?_
        refine Sq.nil ?_
        have e2 := toNat_succ hk.1
        refine Eq.round _ _ ⟨k + 1, _, rfl, by omega, by rw [e2, rowFrom_F (by omega), hu], E, hB4, rfl⟩ (by omega) (.cons rfl (.cons rfl (.cons rfl (.cons rfl (.nil)))))
      refine Sq.nil ?_
      refine Eq.next ?_
      refine Cq.els rfl ?_
      refine Cq.exit ?_
      refine Eq.past ?_
      refine Eq.past ?_
      refine Eq.hit ?_
      refine Eq.end ?_
      refine Eq.next ?_
      refine Cq.region ?_
      refine Sq.move .plain rfl rfl ?_
      refine Sq.add .plain rfl rfl rfl (by omega) ?_
      refine Sq.assign .plain rfl rfl ?_
      refine Sq.nil ?_
      have e1 := toNat_succ hi.1
      refine Eq.round _ _ ⟨i + 1, _, rfl, by omega, by rw [e1, fmtFrom, ← ht, hu, show k.toNat = (a.next.getD i.toNat []).length by omega], E, hB4, rfl⟩ (by omega) (.cons rfl (.cons rfl (.cons rfl (.nil))))
    refine Sq.nil ?_
    refine Eq.next ?_
    refine Cq.els rfl ?_
    refine Cq.exit ?_
    refine Eq.past ?_
    refine Eq.past ?_
    refine Eq.hit ?_
    refine Eq.next ?_
    refine Cq.seq ?_
    refine Cq.region ?_
    refine Sq.move .plain rfl rfl ?_
    refine Sq.assign .plain rfl rfl ?_
    refine Sq.nil ?_
    refine Eq.next ?_
    refine Cq.ret ?_
    refine Eq.ret1 rfl rfl ?_
    exact ⟨by rw [fmtV_yes hv (i := i.toNat) (by omega), ht], E⟩
  refine Sq.notF .plain rfl rfl ?_
  refine Sq.nil ?_
  refine Eq.next ?_
  refine Cq.thn rfl ?_
  refine Cq.seq ?_
  refine Cq.region ?_
  refine Sq.assign .plain rfl rfl ?_
  refine Sq.nil ?_
  refine Eq.next ?_
  refine Cq.ret ?_
  refine Eq.pastRet ?_
  refine Eq.ret1 rfl rfl ?_
  exact ⟨by rw [fmtV_no hv], E⟩
end Go.Proofs.YtnckpafknojdhaaGreatDoor
set_option linter.unusedSimpArgs false
set_option linter.unusedVariables false
namespace Go.Proofs.YtnckpafknojdhaaGreatDoor
open Go.RowKit
set_option maxRecDepth 100000 in
theorem cut2_c (s : ByteArray) (c : Int) (d : UInt8) (hd : c = (d.toNat : Int)) (hs : s.size ≤ 2000000) (w0 : World) : Ret Tryz.prog 33 #[Value.string s, Value.int .u8 c] w0 (fun v w => (Own w w0.heap.size 9 v ((cuts d s).map Value.string) ∧ (1 ≤ (cuts d s).length ∧ (cuts d s).length ≤ s.size + 1) ∧ ∀ x ∈ cuts d s, x.size ≤ s.size) ∧ Ext w0 w) := by
  have E := Ext.refl w0
  refine Ret.of (args := [Value.string s, Value.int .u8 c]) Tryz.func33 rfl rfl rfl ?_
  rintro _ rfl
  show Cq _ _ _ _ [(0, Value.string s), (1, Value.int .u8 c)] _
  refine Cq.seq ?_
  refine Cq.region ?_
  refine Sq.assign .plain rfl rfl ?_
  refine Sq.nil ?_
  refine Eq.next ?_
  refine Cq.seq ?_
  refine Cq.region ?_
  refine Sq.lit sl37 rfl rfl .plain rfl rfl one_nil (fun b1 w2 e3 hlo4 ho5 _ => ?_)
  replace ho5 := ho5 w0.heap.size (Nat.le_refl _)
  have hs7 := Below.size e3
  replace E := E.trans e3
  refine Sq.assign .plain rfl rfl ?_
  refine Sq.nil ?_
  refine Eq.next ?_
  refine Cq.seq ?_
  refine Cq.region ?_
  refine Sq.assign .plain rfl rfl ?_
  refine Sq.nil ?_
  refine Eq.next ?_
  refine Cq.seq ?_
  refine Cq.seq ?_
  refine Cq.region ?_
  refine Sq.assign .plain rfl rfl ?_
  refine Sq.nil ?_
  refine Eq.next ?_
  refine Cq.block ?_
  refine Cq.loop (fun nn w ls => ∃ (i : Int), ∃ (q : Int), ∃ (v : Value), ∃ (xs : List ByteArray), ls = [(0, Value.string s), (1, Value.int .u8 c), (5, v), (6, Value.int .i64 q), (7, Value.int .i64 i)] ∧ (0 ≤ q ∧ q ≤ i ∧ i ≤ s.size + 1) ∧ Own w w0.heap.size 9 v (xs.map Value.string) ∧ ((xs.length : Int) ≤ i ∧ (i = s.size + 1 → 1 ≤ xs.length) ∧ ∀ x ∈ xs, x.size ≤ s.size) ∧ CutI d s q.toNat i.toNat xs ∧ Ext w0 w ∧ nn = ((s.size : Int) + 1 - i).toNat) _ _ ⟨0, 0, _, [], rfl, by omega, Own.mono ho5 (by omega), ⟨by simp, by intro h; omega, by simp⟩, CutI.start d s, E, rfl⟩ (.cons rfl (.cons rfl (.cons rfl (.cons rfl (.cons rfl (.nil)))))) ?_
  rintro nn wl1 ls ⟨i, q, v, xs, rfl, hi, ho, hl, hci, E, rfl⟩
  have hs8 := Below.size E
  refine Cq.seq ?_
  refine Cq.seq ?_
  refine Cq.region ?_
  refine Sq.move .plain rfl rfl ?_
  refine Sq.move .plain rfl rfl ?_
  refine Sq.lenStr .plain rfl und9 rfl ?_
  refine Sq.leq .plain rfl rfl rfl ?_
  refine Sq.part (fun c9 => ?_) (fun c9 => ?_)
  · refine Sq.nil ?_
    refine Eq.next ?_
    refine Cq.thn rfl ?_
    refine Cq.skip ?_
    refine Eq.next ?_
    refine Cq.seq ?_
    refine Cq.block ?_
    refine Cq.seq ?_
    refine Cq.region ?_
    refine Sq.move .plain rfl rfl ?_
    refine Sq.move .plain rfl rfl ?_
    refine Sq.lenStr .plain rfl und9 rfl ?_
    refine Sq.eql .plain rfl rfl rfl ?_
    refine Sq.part (fun he => ?_) (fun he => ?_)
    · refine Sq.move .plain rfl rfl ?_
      refine Sq.off rfl rfl rfl rfl rfl rfl ?_
      refine Sq.off rfl rfl rfl rfl rfl rfl ?_
      refine Sq.off rfl rfl rfl rfl rfl rfl ?_
      refine Sq.off rfl rfl rfl rfl rfl rfl ?_
      refine Sq.off rfl rfl rfl rfl rfl rfl ?_
      refine Sq.pickT .plain rfl rfl rfl ?_
      refine Sq.nil ?_
      refine Eq.next ?_
      refine Cq.thn rfl ?_
      refine Cq.seq ?_
      refine Cq.region ?_
      refine Sq.move .plain rfl rfl ?_
      refine Sq.move .plain rfl rfl ?_
      refine Sq.move .plain rfl rfl ?_
      refine Sq.move .plain rfl rfl ?_
      refine Sq.val .plain rfl rfl (Still.cutLH und9 rfl rfl rfl (by omega)) ?_
      refine Sq.app1 sl37 ho (by omega) (by simp; omega) .plain rfl rfl rfl rfl rfl rfl rfl (fun v10 w11 ho13 g12 _ => ?_)
      have hs14 := g12.size
      replace E := E.owned ho g12 (by omega)
      refine Sq.assign .plain rfl rfl ?_
      refine Sq.nil ?_
      refine Eq.next ?_
      refine Cq.region ?_
      refine Sq.move .plain rfl rfl ?_
      refine Sq.add .plain rfl rfl rfl (by omega) ?_
      refine Sq.assign .plain rfl rfl ?_
      refine Sq.nil ?_
      refine Eq.end ?_
      refine Eq.next ?_
      refine Cq.region ?_
      refine Sq.move .plain rfl rfl ?_
      refine Sq.add .plain rfl rfl rfl (by omega) ?_
      refine Sq.assign .plain rfl rfl ?_
      refine Sq.nil ?_
      have e1 := toNat_succ (k := i) (by omega)
      refine Eq.round _ _ ⟨i + 1, _, _, _, rfl, by omega, Own.snocS ho13, ⟨by simp; omega, by intro h; simp, all_app hl.2.2 (size_cut s)⟩, by rw [e1]; exact hci.last (by omega) _, E, rfl⟩ (by omega) (.cons rfl (.cons rfl (.cons rfl (.cons rfl (.cons rfl (.nil))))))
    refine Sq.move .plain rfl rfl ?_
    refine Sq.move (.met rfl rfl rfl) rfl rfl ?_
    refine Sq.move (.met rfl rfl rfl) rfl rfl ?_
    refine Sq.idxStr (.met rfl rfl rfl) rfl und9 rfl rfl (by omega) (str_at (by omega)) ?_
    refine Sq.move (.met rfl rfl rfl) rfl rfl ?_
    refine Sq.eql (.met rfl rfl rfl) rfl rfl rfl ?_
    refine Sq.part (fun hc => ?_) (fun hc => ?_)
    · refine Sq.pickF .plain rfl rfl rfl ?_
      refine Sq.nil ?_
      refine Eq.next ?_
      refine Cq.thn rfl ?_
      refine Cq.seq ?_
      refine Cq.region ?_
      refine Sq.move .plain rfl rfl ?_
      refine Sq.move .plain rfl rfl ?_
      refine Sq.move .plain rfl rfl ?_
      refine Sq.move .plain rfl rfl ?_
      refine Sq.val .plain rfl rfl (Still.cutLH und9 rfl rfl rfl (by omega)) ?_
      refine Sq.app1 sl37 ho (by omega) (by simp; omega) .plain rfl rfl rfl rfl rfl rfl rfl (fun v16 w17 ho19 g18 _ => ?_)
      have hs20 := g18.size
      replace E := E.owned ho g18 (by omega)
      refine Sq.assign .plain rfl rfl ?_
      refine Sq.nil ?_
      refine Eq.next ?_
      refine Cq.region ?_
      refine Sq.move .plain rfl rfl ?_
      refine Sq.add .plain rfl rfl rfl (by omega) ?_
      refine Sq.assign .plain rfl rfl ?_
      refine Sq.nil ?_
      refine Eq.end ?_
      refine Eq.next ?_
      refine Cq.region ?_
      refine Sq.move .plain rfl rfl ?_
      refine Sq.add .plain rfl rfl rfl (by omega) ?_
      refine Sq.assign .plain rfl rfl ?_
      refine Sq.nil ?_
      have e1 := toNat_succ (k := i) (by omega)
      refine Eq.round _ _ ⟨i + 1, _, _, _, rfl, by omega, Own.snocS ho19, ⟨by simp; omega, by intro h; simp, all_app hl.2.2 (size_cut s)⟩, by rw [e1]; exact hci.hit (by omega) (u8_same hc hd), E, rfl⟩ (by omega) (.cons rfl (.cons rfl (.cons rfl (.cons rfl (.cons rfl (.nil))))))
    refine Sq.pickF .plain rfl rfl rfl ?_
    refine Sq.nil ?_
    refine Eq.next ?_
    refine Cq.els rfl ?_
    refine Cq.skip ?_
    refine Eq.end ?_
    refine Eq.next ?_
    refine Cq.region ?_
    refine Sq.move .plain rfl rfl ?_
    refine Sq.add .plain rfl rfl rfl (by omega) ?_
    refine Sq.assign .plain rfl rfl ?_
    refine Sq.nil ?_
    have e1 := toNat_succ (k := i) (by omega)
    refine Eq.round _ _ ⟨i + 1, _, _, _, rfl, by omega, ho, ⟨by omega, by intro h; omega, hl.2.2⟩, by rw [e1]; exact hci.miss (by omega) (by omega) (u8_diff hc hd), E, rfl⟩ (by omega) (.cons rfl (.cons rfl (.cons rfl (.cons rfl (.cons rfl (.nil))))))
  refine Sq.nil ?_
  refine Eq.next ?_
  refine Cq.els rfl ?_
  refine Cq.exit ?_
  refine Eq.past ?_
  refine Eq.past ?_
  refine Eq.hit ?_
  refine Eq.next ?_
  refine Cq.seq ?_
  refine Cq.region ?_
  refine Sq.move .plain rfl rfl ?_
  refine Sq.assign .plain rfl rfl ?_
  refine Sq.nil ?_
  refine Eq.next ?_
  refine Cq.ret ?_
  refine Eq.ret1 rfl rfl ?_
  obtain rfl := hci.done (by omega)
  exact ⟨⟨ho, by omega, hl.2.2⟩, E⟩
set_option maxRecDepth 100000 in
theorem num2_c (s : ByteArray) (hs : s.size ≤ 2000000) (w0 : World) : Ret Tryz.prog 53 #[Value.string s] w0 (fun v w => (∃ n ok, v = .tuple #[.int .i64 n, .bool ok] ∧ (-1000000000000000000 ≤ n ∧ n ≤ 1000000000000000000) ∧ NumP s ok n) ∧ w0 = w) := by
  refine Ret.of (args := [Value.string s]) Tryz.func53 rfl rfl rfl ?_
  rintro _ rfl
  show Cq _ _ _ _ [(0, Value.string s)] _
  refine Cq.seq ?_
  refine Cq.region ?_
  refine Sq.assign .plain rfl rfl ?_
  refine Sq.assign .plain rfl rfl ?_
  refine Sq.nil ?_
  refine Eq.next ?_
  refine Cq.seq ?_
  refine Cq.region ?_
  refine Sq.move .plain rfl rfl ?_
  refine Sq.lenStr .plain rfl und9 rfl ?_
  refine Sq.gtr .plain rfl rfl rfl ?_
  refine Sq.part (fun c1 => ?_) (fun c1 => ?_)
  · refine Sq.move .plain rfl rfl ?_
    refine Sq.move (.met rfl rfl rfl) rfl rfl ?_
    refine Sq.idxStr (.met rfl rfl rfl) rfl und9 rfl rfl (by omega) (str_at (by omega)) ?_
    refine Sq.eql (.met rfl rfl rfl) rfl rfl rfl ?_
    refine Sq.part (fun hm => ?_) (fun hm => ?_)
    · refine Sq.pickT .plain rfl rfl rfl ?_
      refine Sq.assign .plain rfl rfl ?_
      refine Sq.nil ?_
      refine Eq.next ?_
      refine Cq.seq ?_
      refine Cq.seq ?_
      refine Cq.region ?_
      refine Sq.move .plain rfl rfl ?_
      refine Sq.nil ?_
      refine Eq.next ?_
      refine Cq.thn rfl ?_
      refine Cq.region ?_
      refine Sq.move .plain rfl rfl ?_
      refine Sq.val .plain rfl rfl (Still.cutL und9 rfl rfl (by omega)) ?_
      refine Sq.assign .plain rfl rfl ?_
      refine Sq.nil ?_
      refine Eq.next ?_
      refine Cq.seq ?_
      refine Cq.seq ?_
      refine Cq.region ?_
      have hcut : (((s.extract (1 : Int).toNat s.size)).size : Int) = s.size - 1 := by rw [ByteArray.size_extract]; omega
      refine Sq.move .plain rfl rfl ?_
      refine Sq.lenStr .plain rfl und9 rfl ?_
      refine Sq.eql .plain rfl rfl rfl ?_
      refine Sq.part (fun e1 => ?_) (fun e1 => ?_)
      · refine Sq.move .plain rfl rfl ?_
        refine Sq.off rfl rfl rfl rfl rfl rfl ?_
        refine Sq.off rfl rfl rfl rfl rfl rfl ?_
        refine Sq.off rfl rfl rfl rfl rfl rfl ?_
        refine Sq.pickT .plain rfl rfl rfl ?_
        refine Sq.move .plain rfl rfl ?_
        refine Sq.off rfl rfl rfl rfl rfl rfl ?_
        refine Sq.off rfl rfl rfl rfl rfl rfl ?_
        refine Sq.off rfl rfl rfl rfl rfl rfl ?_
        refine Sq.off rfl rfl rfl rfl rfl rfl ?_
        refine Sq.offU rfl rfl rfl rfl rfl rfl ?_
        refine Sq.offU rfl rfl rfl rfl rfl rfl ?_
        refine Sq.offU rfl rfl rfl rfl rfl rfl ?_
        refine Sq.offU rfl rfl rfl rfl rfl rfl ?_
        refine Sq.offU rfl rfl rfl rfl rfl rfl ?_
        refine Sq.offU rfl rfl rfl rfl rfl rfl ?_
        refine Sq.off rfl rfl rfl rfl rfl rfl ?_
        refine Sq.pickT .plain rfl rfl rfl ?_
        refine Sq.nil ?_
        refine Eq.next ?_
        refine Cq.thn rfl ?_
        refine Cq.seq ?_
        refine Cq.region ?_
        refine Sq.assign .plain rfl rfl ?_
        refine Sq.assign .plain rfl rfl ?_
        refine Sq.nil ?_
        refine Eq.next ?_
        refine Cq.ret ?_
        refine Eq.pastRet ?_
        refine Eq.ret2 rfl rfl rfl ?_
        exact ⟨⟨_, _, rfl, by omega, NumP.neg (by omega) hm⟩, rfl⟩
      refine Sq.move .plain rfl rfl ?_
      refine Sq.move (.met rfl rfl rfl) rfl rfl ?_
      refine Sq.lenStr (.met rfl rfl rfl) rfl und9 rfl ?_
      refine Sq.gtr (.met rfl rfl rfl) rfl rfl rfl ?_
      refine Sq.part (fun e2 => ?_) (fun e2 => ?_)
      · refine Sq.pickF .plain rfl rfl rfl ?_
        refine Sq.move .plain rfl rfl ?_
        refine Sq.off rfl rfl rfl rfl rfl rfl ?_
        refine Sq.off rfl rfl rfl rfl rfl rfl ?_
        refine Sq.off rfl rfl rfl rfl rfl rfl ?_
        refine Sq.off rfl rfl rfl rfl rfl rfl ?_
        refine Sq.offU rfl rfl rfl rfl rfl rfl ?_
        refine Sq.offU rfl rfl rfl rfl rfl rfl ?_
        refine Sq.offU rfl rfl rfl rfl rfl rfl ?_
        refine Sq.offU rfl rfl rfl rfl rfl rfl ?_
        refine Sq.offU rfl rfl rfl rfl rfl rfl ?_
        refine Sq.offU rfl rfl rfl rfl rfl rfl ?_
        refine Sq.off rfl rfl rfl rfl rfl rfl ?_
        refine Sq.pickT .plain rfl rfl rfl ?_
        refine Sq.nil ?_
        refine Eq.next ?_
        refine Cq.thn rfl ?_
        refine Cq.seq ?_
        refine Cq.region ?_
        refine Sq.assign .plain rfl rfl ?_
        refine Sq.assign .plain rfl rfl ?_
        refine Sq.nil ?_
        refine Eq.next ?_
        refine Cq.ret ?_
        refine Eq.pastRet ?_
        refine Eq.ret2 rfl rfl rfl ?_
        exact ⟨⟨_, _, rfl, by omega, NumP.neg (by omega) hm⟩, rfl⟩
      refine Sq.pickF .plain rfl rfl rfl ?_
      refine Sq.move .plain rfl rfl ?_
      refine Sq.move (.met rfl rfl rfl) rfl rfl ?_
      refine Sq.idxStr (.met rfl rfl rfl) rfl und9 rfl rfl (by omega) (str_at (by omega)) ?_
      refine Sq.eql (.met rfl rfl rfl) rfl rfl rfl ?_
      refine Sq.part (fun e3 => ?_) (fun e3 => ?_)
      · refine Sq.move (.met rfl rfl rfl) rfl rfl ?_
        refine Sq.move (.met rfl rfl rfl) rfl rfl ?_
        refine Sq.lenStr (.met rfl rfl rfl) rfl und9 rfl ?_
        refine Sq.gtr (.met rfl rfl rfl) rfl rfl rfl ?_
        refine Sq.part (fun e4 => ?_) (fun e4 => ?_)
        · refine Sq.move (.met rfl rfl rfl) rfl rfl ?_
          refine Sq.off rfl rfl rfl rfl rfl rfl ?_
          refine Sq.pickT (.met rfl rfl rfl) rfl rfl rfl ?_
          refine Sq.pickT (.met rfl rfl rfl) rfl rfl rfl ?_
          refine Sq.pickF .plain rfl rfl rfl ?_
          refine Sq.nil ?_
          refine Eq.next ?_
          refine Cq.thn rfl ?_
          refine Cq.seq ?_
          refine Cq.region ?_
          refine Sq.assign .plain rfl rfl ?_
          refine Sq.assign .plain rfl rfl ?_
          refine Sq.nil ?_
          refine Eq.next ?_
          refine Cq.ret ?_
          refine Eq.pastRet ?_
          refine Eq.ret2 rfl rfl rfl ?_
          exact ⟨⟨_, _, rfl, by omega, NumP.neg (by omega) hm⟩, rfl⟩
        refine Sq.move (.met rfl rfl rfl) rfl rfl ?_
        refine Sq.move (.met rfl rfl rfl) rfl rfl ?_
        refine Sq.pickF (.met rfl rfl rfl) rfl rfl rfl ?_
        refine Sq.pickT (.met rfl rfl rfl) rfl rfl rfl ?_
        refine Sq.pickF .plain rfl rfl rfl ?_
        refine Sq.nil ?_
        refine Eq.next ?_
        refine Cq.thn rfl ?_
        refine Cq.seq ?_
        refine Cq.region ?_
        refine Sq.assign .plain rfl rfl ?_
        refine Sq.assign .plain rfl rfl ?_
        refine Sq.nil ?_
        refine Eq.next ?_
        refine Cq.ret ?_
        refine Eq.pastRet ?_
        refine Eq.ret2 rfl rfl rfl ?_
        exact ⟨⟨_, _, rfl, by omega, NumP.neg (by omega) hm⟩, rfl⟩
      refine Sq.move (.met rfl rfl rfl) rfl rfl ?_
      refine Sq.off rfl rfl rfl rfl rfl rfl ?_
      refine Sq.off rfl rfl rfl rfl rfl rfl ?_
      refine Sq.off rfl rfl rfl rfl rfl rfl ?_
      refine Sq.off rfl rfl rfl rfl rfl rfl ?_
      refine Sq.offU rfl rfl rfl rfl rfl rfl ?_
      refine Sq.off rfl rfl rfl rfl rfl rfl ?_
      refine Sq.pickF (.met rfl rfl rfl) rfl rfl rfl ?_
      refine Sq.pickF .plain rfl rfl rfl ?_
      refine Sq.nil ?_
      refine Eq.next ?_
      refine Cq.els rfl ?_
      refine Cq.skip ?_
      refine Eq.next ?_
      refine Cq.seq ?_
      refine Cq.region ?_
      refine Sq.assign .plain rfl rfl ?_
      refine Sq.nil ?_
      refine Eq.next ?_
      refine Cq.seq ?_
      refine Cq.seq ?_
      refine Cq.region ?_
      refine Sq.assign .plain rfl rfl ?_
      refine Sq.nil ?_
      refine Eq.next ?_
      refine Cq.block ?_
      refine Cq.loop (fun nn w ls => ∃ (k : Int), ∃ (n : Int), ls = [(0, Value.string ((s.extract (1 : Int).toNat s.size))), (4, Value.bool true), (5, Value.int .i64 n), (6, Value.int .i64 k)] ∧ w0 = w ∧ (0 ≤ k ∧ k ≤ ((s.extract (1 : Int).toNat s.size)).size) ∧ (((s.extract (1 : Int).toNat s.size)).size ≤ 17) ∧ (0 ≤ n ∧ n < 10 ^ k.toNat) ∧ n = decV ((s.extract (1 : Int).toNat s.size)) k.toNat ∧ nn = ((((s.extract (1 : Int).toNat s.size)).size : Int) - k).toNat) _ _ ⟨0, 0, rfl, rfl, by omega, by omega, by decide, rfl, rfl⟩ (.cons rfl (.cons rfl (.cons rfl (.cons rfl (.nil))))) ?_
      rintro n1 w ls ⟨k, n, rfl, rfl, hk, hz, hn, hv, rfl⟩
      have hp := pow_small (k := k.toNat) (by omega)
      refine Cq.seq ?_
      refine Cq.seq ?_
      refine Cq.region ?_
      refine Sq.move .plain rfl rfl ?_
      refine Sq.move .plain rfl rfl ?_
      refine Sq.lenStr .plain rfl und9 rfl ?_
      refine Sq.lss .plain rfl rfl rfl ?_
      refine Sq.part (fun c4 => ?_) (fun c4 => ?_)
      · refine Sq.nil ?_
        refine Eq.next ?_
        refine Cq.thn rfl ?_
        refine Cq.skip ?_
        refine Eq.next ?_
        refine Cq.seq ?_
        refine Cq.block ?_
        refine Cq.seq ?_
        refine Cq.seq ?_
        refine Cq.region ?_
        refine Sq.move .plain rfl rfl ?_
        refine Sq.move .plain rfl rfl ?_
        refine Sq.idxStr .plain rfl und9 rfl rfl (by omega) (str_at (by omega)) ?_
        refine Sq.lss .plain rfl rfl rfl ?_
        refine Sq.part (fun d1 => ?_) (fun d1 => ?_)
        · refine Sq.move .plain rfl rfl ?_
          refine Sq.off rfl rfl rfl rfl rfl rfl ?_
          refine Sq.off rfl rfl rfl rfl rfl rfl ?_
          refine Sq.off rfl rfl rfl rfl rfl rfl ?_
          refine Sq.off rfl rfl rfl rfl rfl rfl ?_
          refine Sq.pickT .plain rfl rfl rfl ?_
          refine Sq.nil ?_
          refine Eq.next ?_
          refine Cq.thn rfl ?_
          refine Cq.seq ?_
          refine Cq.region ?_
          refine Sq.assign .plain rfl rfl ?_
          refine Sq.assign .plain rfl rfl ?_
          refine Sq.nil ?_
          refine Eq.next ?_
          refine Cq.ret ?_
          refine Eq.pastRet ?_
          refine Eq.outRet ?_
          refine Eq.pastRet ?_
          refine Eq.pastRet ?_
          refine Eq.outRet ?_
          refine Eq.pastRet ?_
          refine Eq.ret2 rfl rfl rfl ?_
          exact ⟨⟨_, _, rfl, by omega, NumP.neg (by omega) hm⟩, rfl⟩
        refine Sq.move .plain rfl rfl ?_
        refine Sq.move (.met rfl rfl rfl) rfl rfl ?_
        refine Sq.move (.met rfl rfl rfl) rfl rfl ?_
        refine Sq.idxStr (.met rfl rfl rfl) rfl und9 rfl rfl (by omega) (str_at (by omega)) ?_
        refine Sq.gtr (.met rfl rfl rfl) rfl rfl rfl ?_
        refine Sq.part (fun d2 => ?_) (fun d2 => ?_)
        · refine Sq.pickF .plain rfl rfl rfl ?_
          refine Sq.nil ?_
          refine Eq.next ?_
          refine Cq.thn rfl ?_
          refine Cq.seq ?_
          refine Cq.region ?_
          refine Sq.assign .plain rfl rfl ?_
          refine Sq.assign .plain rfl rfl ?_
          refine Sq.nil ?_
          refine Eq.next ?_
          refine Cq.ret ?_
          refine Eq.pastRet ?_
          refine Eq.outRet ?_
          refine Eq.pastRet ?_
          refine Eq.pastRet ?_
          refine Eq.outRet ?_
          refine Eq.pastRet ?_
          refine Eq.ret2 rfl rfl rfl ?_
          exact ⟨⟨_, _, rfl, by omega, NumP.neg (by omega) hm⟩, rfl⟩
        refine Sq.pickF .plain rfl rfl rfl ?_
        refine Sq.nil ?_
        refine Eq.next ?_
        refine Cq.els rfl ?_
        refine Cq.skip ?_
        refine Eq.next ?_
        refine Cq.region ?_
        refine Sq.move .plain rfl rfl ?_
        refine Sq.mul .plain rfl rfl rfl (by omega) ?_
        refine Sq.move .plain rfl rfl ?_
        refine Sq.move .plain rfl rfl ?_
        refine Sq.idxStr .plain rfl und9 rfl rfl (by omega) (str_at (by omega)) ?_
        refine Sq.sub8 .plain rfl rfl rfl (by omega) ?_
        refine Sq.conv conv5_3 .plain rfl rfl (by omega) ?_
        refine Sq.add .plain rfl rfl rfl (by omega) ?_
        refine Sq.assign .plain rfl rfl ?_
        refine Sq.nil ?_
        refine Eq.end ?_
        refine Eq.next ?_
        refine Cq.region ?_
        refine Sq.move .plain rfl rfl ?_
        refine Sq.add .plain rfl rfl rfl (by omega) ?_
        refine Sq.assign .plain rfl rfl ?_
        refine Sq.nil ?_
        have e1 := toNat_succ hk.1
        refine Eq.round _ _ ⟨k + 1, _, rfl, rfl, by omega, hz, by rw [e1]; exact pow_step hn (by omega), by rw [e1, decV_succ (by omega), ← hv], rfl⟩ (by omega) (.cons rfl (.cons rfl (.cons rfl (.cons rfl (.nil)))))
      refine Sq.nil ?_
      refine Eq.next ?_
      refine Cq.els rfl ?_
      refine Cq.exit ?_
      refine Eq.past ?_
      refine Eq.past ?_
      refine Eq.hit ?_
      refine Eq.next ?_
      refine Cq.seq ?_
      refine Cq.seq ?_
      refine Cq.region ?_
      refine Sq.move .plain rfl rfl ?_
      refine Sq.nil ?_
      refine Eq.next ?_
      refine Cq.thn rfl ?_
      refine Cq.region ?_
      refine Sq.move .plain rfl rfl ?_
      refine Sq.neg .plain rfl rfl (by omega) ?_
      refine Sq.assign .plain rfl rfl ?_
      refine Sq.nil ?_
      refine Eq.next ?_
      refine Cq.seq ?_
      refine Cq.region ?_
      refine Sq.move .plain rfl rfl ?_
      refine Sq.assign .plain rfl rfl ?_
      refine Sq.assign .plain rfl rfl ?_
      refine Sq.nil ?_
      refine Eq.next ?_
      refine Cq.ret ?_
      refine Eq.ret2 rfl rfl rfl ?_
      exact ⟨⟨_, _, rfl, by omega, NumP.neg (by omega) hm⟩, rfl⟩
    refine Sq.pickT .plain rfl rfl rfl ?_
    refine Sq.assign .plain rfl rfl ?_
    refine Sq.nil ?_
    refine Eq.next ?_
    refine Cq.seq ?_
    refine Cq.seq ?_
    refine Cq.region ?_
    refine Sq.move .plain rfl rfl ?_
    refine Sq.nil ?_
    refine Eq.next ?_
    refine Cq.els rfl ?_
    refine Cq.skip ?_
    refine Eq.next ?_
    refine Cq.seq ?_
    refine Cq.seq ?_
    refine Cq.region ?_
    refine Sq.move .plain rfl rfl ?_
    refine Sq.lenStr .plain rfl und9 rfl ?_
    refine Sq.eql .plain rfl rfl rfl ?_
    refine Sq.part (fun e1 => ?_) (fun e1 => ?_)
    · refine Sq.move .plain rfl rfl ?_
      refine Sq.off rfl rfl rfl rfl rfl rfl ?_
      refine Sq.off rfl rfl rfl rfl rfl rfl ?_
      refine Sq.off rfl rfl rfl rfl rfl rfl ?_
      refine Sq.pickT .plain rfl rfl rfl ?_
      refine Sq.move .plain rfl rfl ?_
      refine Sq.off rfl rfl rfl rfl rfl rfl ?_
      refine Sq.off rfl rfl rfl rfl rfl rfl ?_
      refine Sq.off rfl rfl rfl rfl rfl rfl ?_
      refine Sq.off rfl rfl rfl rfl rfl rfl ?_
      refine Sq.offU rfl rfl rfl rfl rfl rfl ?_
      refine Sq.offU rfl rfl rfl rfl rfl rfl ?_
      refine Sq.offU rfl rfl rfl rfl rfl rfl ?_
      refine Sq.offU rfl rfl rfl rfl rfl rfl ?_
      refine Sq.offU rfl rfl rfl rfl rfl rfl ?_
      refine Sq.offU rfl rfl rfl rfl rfl rfl ?_
      refine Sq.off rfl rfl rfl rfl rfl rfl ?_
      refine Sq.pickT .plain rfl rfl rfl ?_
      refine Sq.nil ?_
      refine Eq.next ?_
      refine Cq.thn rfl ?_
      refine Cq.seq ?_
      refine Cq.region ?_
      refine Sq.assign .plain rfl rfl ?_
      refine Sq.assign .plain rfl rfl ?_
      refine Sq.nil ?_
      refine Eq.next ?_
      refine Cq.ret ?_
      refine Eq.pastRet ?_
      refine Eq.ret2 rfl rfl rfl ?_
      exact ⟨⟨_, _, rfl, by omega, by first | exact NumP.none (by omega) | exact NumP.long (by omega) | exact NumP.lead (by omega) e3⟩, rfl⟩
    refine Sq.move .plain rfl rfl ?_
    refine Sq.move (.met rfl rfl rfl) rfl rfl ?_
    refine Sq.lenStr (.met rfl rfl rfl) rfl und9 rfl ?_
    refine Sq.gtr (.met rfl rfl rfl) rfl rfl rfl ?_
    refine Sq.part (fun e2 => ?_) (fun e2 => ?_)
    · refine Sq.pickF .plain rfl rfl rfl ?_
      refine Sq.move .plain rfl rfl ?_
      refine Sq.off rfl rfl rfl rfl rfl rfl ?_
      refine Sq.off rfl rfl rfl rfl rfl rfl ?_
      refine Sq.off rfl rfl rfl rfl rfl rfl ?_
      refine Sq.off rfl rfl rfl rfl rfl rfl ?_
      refine Sq.offU rfl rfl rfl rfl rfl rfl ?_
      refine Sq.offU rfl rfl rfl rfl rfl rfl ?_
      refine Sq.offU rfl rfl rfl rfl rfl rfl ?_
      refine Sq.offU rfl rfl rfl rfl rfl rfl ?_
      refine Sq.offU rfl rfl rfl rfl rfl rfl ?_
      refine Sq.offU rfl rfl rfl rfl rfl rfl ?_
      refine Sq.off rfl rfl rfl rfl rfl rfl ?_
      refine Sq.pickT .plain rfl rfl rfl ?_
      refine Sq.nil ?_
      refine Eq.next ?_
      refine Cq.thn rfl ?_
      refine Cq.seq ?_
      refine Cq.region ?_
      refine Sq.assign .plain rfl rfl ?_
      refine Sq.assign .plain rfl rfl ?_
      refine Sq.nil ?_
      refine Eq.next ?_
      refine Cq.ret ?_
      refine Eq.pastRet ?_
      refine Eq.ret2 rfl rfl rfl ?_
      exact ⟨⟨_, _, rfl, by omega, by first | exact NumP.none (by omega) | exact NumP.long (by omega) | exact NumP.lead (by omega) e3⟩, rfl⟩
    refine Sq.pickF .plain rfl rfl rfl ?_
    refine Sq.move .plain rfl rfl ?_
    refine Sq.move (.met rfl rfl rfl) rfl rfl ?_
    refine Sq.idxStr (.met rfl rfl rfl) rfl und9 rfl rfl (by omega) (str_at (by omega)) ?_
    refine Sq.eql (.met rfl rfl rfl) rfl rfl rfl ?_
    refine Sq.part (fun e3 => ?_) (fun e3 => ?_)
    · refine Sq.move (.met rfl rfl rfl) rfl rfl ?_
      refine Sq.move (.met rfl rfl rfl) rfl rfl ?_
      refine Sq.lenStr (.met rfl rfl rfl) rfl und9 rfl ?_
      refine Sq.gtr (.met rfl rfl rfl) rfl rfl rfl ?_
      refine Sq.part (fun e4 => ?_) (fun e4 => ?_)
      · refine Sq.move (.met rfl rfl rfl) rfl rfl ?_
        refine Sq.off rfl rfl rfl rfl rfl rfl ?_
        refine Sq.pickT (.met rfl rfl rfl) rfl rfl rfl ?_
        refine Sq.pickT (.met rfl rfl rfl) rfl rfl rfl ?_
        refine Sq.pickF .plain rfl rfl rfl ?_
        refine Sq.nil ?_
        refine Eq.next ?_
        refine Cq.thn rfl ?_
        refine Cq.seq ?_
        refine Cq.region ?_
        refine Sq.assign .plain rfl rfl ?_
        refine Sq.assign .plain rfl rfl ?_
        refine Sq.nil ?_
        refine Eq.next ?_
        refine Cq.ret ?_
        refine Eq.pastRet ?_
        refine Eq.ret2 rfl rfl rfl ?_
        exact ⟨⟨_, _, rfl, by omega, by first | exact NumP.none (by omega) | exact NumP.long (by omega) | exact NumP.lead (by omega) e3⟩, rfl⟩
      refine Sq.move (.met rfl rfl rfl) rfl rfl ?_
      refine Sq.move (.met rfl rfl rfl) rfl rfl ?_
      refine Sq.pickF (.met rfl rfl rfl) rfl rfl rfl ?_
      refine Sq.pickT (.met rfl rfl rfl) rfl rfl rfl ?_
      refine Sq.pickF .plain rfl rfl rfl ?_
      refine Sq.nil ?_
      refine Eq.next ?_
      refine Cq.els rfl ?_
      refine Cq.skip ?_
      refine Eq.next ?_
      refine Cq.seq ?_
      refine Cq.region ?_
      refine Sq.assign .plain rfl rfl ?_
      refine Sq.nil ?_
      refine Eq.next ?_
      refine Cq.seq ?_
      refine Cq.seq ?_
      refine Cq.region ?_
      refine Sq.assign .plain rfl rfl ?_
      refine Sq.nil ?_
      refine Eq.next ?_
      refine Cq.block ?_
      refine Cq.loop (fun nn w ls => ∃ (k : Int), ∃ (n : Int), ls = [(0, Value.string s), (4, Value.bool false), (5, Value.int .i64 n), (6, Value.int .i64 k)] ∧ w0 = w ∧ (0 ≤ k ∧ k ≤ (s).size) ∧ ((s).size ≤ 17) ∧ (0 ≤ n ∧ n < 10 ^ k.toNat) ∧ n = decV (s) k.toNat ∧ nn = (((s).size : Int) - k).toNat) _ _ ⟨0, 0, rfl, rfl, by omega, by omega, by decide, rfl, rfl⟩ (.cons rfl (.cons rfl (.cons rfl (.cons rfl (.nil))))) ?_
      rintro n1 w ls ⟨k, n, rfl, rfl, hk, hz, hn, hv, rfl⟩
      have hp := pow_small (k := k.toNat) (by omega)
      refine Cq.seq ?_
      refine Cq.seq ?_
      refine Cq.region ?_
      refine Sq.move .plain rfl rfl ?_
      refine Sq.move .plain rfl rfl ?_
      refine Sq.lenStr .plain rfl und9 rfl ?_
      refine Sq.lss .plain rfl rfl rfl ?_
      refine Sq.part (fun c9 => ?_) (fun c9 => ?_)
      · refine Sq.nil ?_
        refine Eq.next ?_
        refine Cq.thn rfl ?_
        refine Cq.skip ?_
        refine Eq.next ?_
        refine Cq.seq ?_
        refine Cq.block ?_
        refine Cq.seq ?_
        refine Cq.seq ?_
        refine Cq.region ?_
        refine Sq.move .plain rfl rfl ?_
        refine Sq.move .plain rfl rfl ?_
        refine Sq.idxStr .plain rfl und9 rfl rfl (by omega) (str_at (by omega)) ?_
        refine Sq.lss .plain rfl rfl rfl ?_
        refine Sq.part (fun d1 => ?_) (fun d1 => ?_)
        · refine Sq.move .plain rfl rfl ?_
          refine Sq.off rfl rfl rfl rfl rfl rfl ?_
          refine Sq.off rfl rfl rfl rfl rfl rfl ?_
          refine Sq.off rfl rfl rfl rfl rfl rfl ?_
          refine Sq.off rfl rfl rfl rfl rfl rfl ?_
          refine Sq.pickT .plain rfl rfl rfl ?_
          refine Sq.nil ?_
          refine Eq.next ?_
          refine Cq.thn rfl ?_
          refine Cq.seq ?_
          refine Cq.region ?_
          refine Sq.assign .plain rfl rfl ?_
          refine Sq.assign .plain rfl rfl ?_
          refine Sq.nil ?_
          refine Eq.next ?_
          refine Cq.ret ?_
          refine Eq.pastRet ?_
          refine Eq.outRet ?_
          refine Eq.pastRet ?_
          refine Eq.pastRet ?_
          refine Eq.outRet ?_
          refine Eq.pastRet ?_
          refine Eq.ret2 rfl rfl rfl ?_
          exact ⟨⟨_, _, rfl, by omega, NumP.digit (k := k.toNat) (by omega) (by omega)⟩, rfl⟩
        refine Sq.move .plain rfl rfl ?_
        refine Sq.move (.met rfl rfl rfl) rfl rfl ?_
        refine Sq.move (.met rfl rfl rfl) rfl rfl ?_
        refine Sq.idxStr (.met rfl rfl rfl) rfl und9 rfl rfl (by omega) (str_at (by omega)) ?_
        refine Sq.gtr (.met rfl rfl rfl) rfl rfl rfl ?_
        refine Sq.part (fun d2 => ?_) (fun d2 => ?_)
        · refine Sq.pickF .plain rfl rfl rfl ?_
          refine Sq.nil ?_
          refine Eq.next ?_
          refine Cq.thn rfl ?_
          refine Cq.seq ?_
          refine Cq.region ?_
          refine Sq.assign .plain rfl rfl ?_
          refine Sq.assign .plain rfl rfl ?_
          refine Sq.nil ?_
          refine Eq.next ?_
          refine Cq.ret ?_
          refine Eq.pastRet ?_
          refine Eq.outRet ?_
          refine Eq.pastRet ?_
          refine Eq.pastRet ?_
          refine Eq.outRet ?_
          refine Eq.pastRet ?_
          refine Eq.ret2 rfl rfl rfl ?_
          exact ⟨⟨_, _, rfl, by omega, NumP.digit (k := k.toNat) (by omega) (by omega)⟩, rfl⟩
        refine Sq.pickF .plain rfl rfl rfl ?_
        refine Sq.nil ?_
        refine Eq.next ?_
        refine Cq.els rfl ?_
        refine Cq.skip ?_
        refine Eq.next ?_
        refine Cq.region ?_
        refine Sq.move .plain rfl rfl ?_
        refine Sq.mul .plain rfl rfl rfl (by omega) ?_
        refine Sq.move .plain rfl rfl ?_
        refine Sq.move .plain rfl rfl ?_
        refine Sq.idxStr .plain rfl und9 rfl rfl (by omega) (str_at (by omega)) ?_
        refine Sq.sub8 .plain rfl rfl rfl (by omega) ?_
        refine Sq.conv conv5_3 .plain rfl rfl (by omega) ?_
        refine Sq.add .plain rfl rfl rfl (by omega) ?_
        refine Sq.assign .plain rfl rfl ?_
        refine Sq.nil ?_
        refine Eq.end ?_
        refine Eq.next ?_
        refine Cq.region ?_
        refine Sq.move .plain rfl rfl ?_
        refine Sq.add .plain rfl rfl rfl (by omega) ?_
        refine Sq.assign .plain rfl rfl ?_
        refine Sq.nil ?_
        have e1 := toNat_succ hk.1
        refine Eq.round _ _ ⟨k + 1, _, rfl, rfl, by omega, hz, by rw [e1]; exact pow_step hn (by omega), by rw [e1, decV_succ (by omega), ← hv], rfl⟩ (by omega) (.cons rfl (.cons rfl (.cons rfl (.cons rfl (.nil)))))
      refine Sq.nil ?_
      refine Eq.next ?_
      refine Cq.els rfl ?_
      refine Cq.exit ?_
      refine Eq.past ?_
      refine Eq.past ?_
      refine Eq.hit ?_
      refine Eq.next ?_
      refine Cq.seq ?_
      refine Cq.seq ?_
      refine Cq.region ?_
      refine Sq.move .plain rfl rfl ?_
      refine Sq.nil ?_
      refine Eq.next ?_
      refine Cq.els rfl ?_
      refine Cq.skip ?_
      refine Eq.next ?_
      refine Cq.seq ?_
      refine Cq.region ?_
      refine Sq.move .plain rfl rfl ?_
      refine Sq.assign .plain rfl rfl ?_
      refine Sq.assign .plain rfl rfl ?_
      refine Sq.nil ?_
      refine Eq.next ?_
      refine Cq.ret ?_
      refine Eq.ret2 rfl rfl rfl ?_
      exact ⟨⟨_, _, rfl, by omega, by rw [hv]; exact NumP.good (by omega)⟩, rfl⟩
    refine Sq.move (.met rfl rfl rfl) rfl rfl ?_
    refine Sq.off rfl rfl rfl rfl rfl rfl ?_
    refine Sq.off rfl rfl rfl rfl rfl rfl ?_
    refine Sq.off rfl rfl rfl rfl rfl rfl ?_
    refine Sq.off rfl rfl rfl rfl rfl rfl ?_
    refine Sq.offU rfl rfl rfl rfl rfl rfl ?_
    refine Sq.off rfl rfl rfl rfl rfl rfl ?_
    refine Sq.pickF (.met rfl rfl rfl) rfl rfl rfl ?_
    refine Sq.pickF .plain rfl rfl rfl ?_
    refine Sq.nil ?_
    refine Eq.next ?_
    refine Cq.els rfl ?_
    refine Cq.skip ?_
    refine Eq.next ?_
    refine Cq.seq ?_
    refine Cq.region ?_
    refine Sq.assign .plain rfl rfl ?_
    refine Sq.nil ?_
    refine Eq.next ?_
    refine Cq.seq ?_
    refine Cq.seq ?_
    refine Cq.region ?_
    refine Sq.assign .plain rfl rfl ?_
    refine Sq.nil ?_
    refine Eq.next ?_
    refine Cq.block ?_
    refine Cq.loop (fun nn w ls => ∃ (k : Int), ∃ (n : Int), ls = [(0, Value.string s), (4, Value.bool false), (5, Value.int .i64 n), (6, Value.int .i64 k)] ∧ w0 = w ∧ (0 ≤ k ∧ k ≤ (s).size) ∧ ((s).size ≤ 17) ∧ (0 ≤ n ∧ n < 10 ^ k.toNat) ∧ n = decV (s) k.toNat ∧ nn = (((s).size : Int) - k).toNat) _ _ ⟨0, 0, rfl, rfl, by omega, by omega, by decide, rfl, rfl⟩ (.cons rfl (.cons rfl (.cons rfl (.cons rfl (.nil))))) ?_
    rintro n1 w ls ⟨k, n, rfl, rfl, hk, hz, hn, hv, rfl⟩
    have hp := pow_small (k := k.toNat) (by omega)
    refine Cq.seq ?_
    refine Cq.seq ?_
    refine Cq.region ?_
    refine Sq.move .plain rfl rfl ?_
    refine Sq.move .plain rfl rfl ?_
    refine Sq.lenStr .plain rfl und9 rfl ?_
    refine Sq.lss .plain rfl rfl rfl ?_
    refine Sq.part (fun c13 => ?_) (fun c13 => ?_)
    · refine Sq.nil ?_
      refine Eq.next ?_
      refine Cq.thn rfl ?_
      refine Cq.skip ?_
      refine Eq.next ?_
      refine Cq.seq ?_
      refine Cq.block ?_
      refine Cq.seq ?_
      refine Cq.seq ?_
      refine Cq.region ?_
      refine Sq.move .plain rfl rfl ?_
      refine Sq.move .plain rfl rfl ?_
      refine Sq.idxStr .plain rfl und9 rfl rfl (by omega) (str_at (by omega)) ?_
      refine Sq.lss .plain rfl rfl rfl ?_
      refine Sq.part (fun d1 => ?_) (fun d1 => ?_)
      · refine Sq.move .plain rfl rfl ?_
        refine Sq.off rfl rfl rfl rfl rfl rfl ?_
        refine Sq.off rfl rfl rfl rfl rfl rfl ?_
        refine Sq.off rfl rfl rfl rfl rfl rfl ?_
        refine Sq.off rfl rfl rfl rfl rfl rfl ?_
        refine Sq.pickT .plain rfl rfl rfl ?_
        refine Sq.nil ?_
        refine Eq.next ?_
        refine Cq.thn rfl ?_
        refine Cq.seq ?_
        refine Cq.region ?_
        refine Sq.assign .plain rfl rfl ?_
        refine Sq.assign .plain rfl rfl ?_
        refine Sq.nil ?_
        refine Eq.next ?_
        refine Cq.ret ?_
        refine Eq.pastRet ?_
        refine Eq.outRet ?_
        refine Eq.pastRet ?_
        refine Eq.pastRet ?_
        refine Eq.outRet ?_
        refine Eq.pastRet ?_
        refine Eq.ret2 rfl rfl rfl ?_
        exact ⟨⟨_, _, rfl, by omega, NumP.digit (k := k.toNat) (by omega) (by omega)⟩, rfl⟩
      refine Sq.move .plain rfl rfl ?_
      refine Sq.move (.met rfl rfl rfl) rfl rfl ?_
      refine Sq.move (.met rfl rfl rfl) rfl rfl ?_
      refine Sq.idxStr (.met rfl rfl rfl) rfl und9 rfl rfl (by omega) (str_at (by omega)) ?_
      refine Sq.gtr (.met rfl rfl rfl) rfl rfl rfl ?_
      refine Sq.part (fun d2 => ?_) (fun d2 => ?_)
      · refine Sq.pickF .plain rfl rfl rfl ?_
        refine Sq.nil ?_
        refine Eq.next ?_
        refine Cq.thn rfl ?_
        refine Cq.seq ?_
        refine Cq.region ?_
        refine Sq.assign .plain rfl rfl ?_
        refine Sq.assign .plain rfl rfl ?_
        refine Sq.nil ?_
        refine Eq.next ?_
        refine Cq.ret ?_
        refine Eq.pastRet ?_
        refine Eq.outRet ?_
        refine Eq.pastRet ?_
        refine Eq.pastRet ?_
        refine Eq.outRet ?_
        refine Eq.pastRet ?_
        refine Eq.ret2 rfl rfl rfl ?_
        exact ⟨⟨_, _, rfl, by omega, NumP.digit (k := k.toNat) (by omega) (by omega)⟩, rfl⟩
      refine Sq.pickF .plain rfl rfl rfl ?_
      refine Sq.nil ?_
      refine Eq.next ?_
      refine Cq.els rfl ?_
      refine Cq.skip ?_
      refine Eq.next ?_
      refine Cq.region ?_
      refine Sq.move .plain rfl rfl ?_
      refine Sq.mul .plain rfl rfl rfl (by omega) ?_
      refine Sq.move .plain rfl rfl ?_
      refine Sq.move .plain rfl rfl ?_
      refine Sq.idxStr .plain rfl und9 rfl rfl (by omega) (str_at (by omega)) ?_
      refine Sq.sub8 .plain rfl rfl rfl (by omega) ?_
      refine Sq.conv conv5_3 .plain rfl rfl (by omega) ?_
      refine Sq.add .plain rfl rfl rfl (by omega) ?_
      refine Sq.assign .plain rfl rfl ?_
      refine Sq.nil ?_
      refine Eq.end ?_
      refine Eq.next ?_
      refine Cq.region ?_
      refine Sq.move .plain rfl rfl ?_
      refine Sq.add .plain rfl rfl rfl (by omega) ?_
      refine Sq.assign .plain rfl rfl ?_
      refine Sq.nil ?_
      have e1 := toNat_succ hk.1
      refine Eq.round _ _ ⟨k + 1, _, rfl, rfl, by omega, hz, by rw [e1]; exact pow_step hn (by omega), by rw [e1, decV_succ (by omega), ← hv], rfl⟩ (by omega) (.cons rfl (.cons rfl (.cons rfl (.cons rfl (.nil)))))
    refine Sq.nil ?_
    refine Eq.next ?_
    refine Cq.els rfl ?_
    refine Cq.exit ?_
    refine Eq.past ?_
    refine Eq.past ?_
    refine Eq.hit ?_
    refine Eq.next ?_
    refine Cq.seq ?_
    refine Cq.seq ?_
    refine Cq.region ?_
    refine Sq.move .plain rfl rfl ?_
    refine Sq.nil ?_
    refine Eq.next ?_
    refine Cq.els rfl ?_
    refine Cq.skip ?_
    refine Eq.next ?_
    refine Cq.seq ?_
    refine Cq.region ?_
    refine Sq.move .plain rfl rfl ?_
    refine Sq.assign .plain rfl rfl ?_
    refine Sq.assign .plain rfl rfl ?_
    refine Sq.nil ?_
    refine Eq.next ?_
    refine Cq.ret ?_
    refine Eq.ret2 rfl rfl rfl ?_
    exact ⟨⟨_, _, rfl, by omega, by rw [hv]; exact NumP.good (by omega)⟩, rfl⟩
  refine Sq.move .plain rfl rfl ?_
  refine Sq.off rfl rfl rfl rfl rfl rfl ?_
  refine Sq.off rfl rfl rfl rfl rfl rfl ?_
  refine Sq.off rfl rfl rfl rfl rfl rfl ?_
  refine Sq.pickF .plain rfl rfl rfl ?_
  refine Sq.assign .plain rfl rfl ?_
  refine Sq.nil ?_
  refine Eq.next ?_
  refine Cq.seq ?_
  refine Cq.seq ?_
  refine Cq.region ?_
  refine Sq.move .plain rfl rfl ?_
  refine Sq.nil ?_
  refine Eq.next ?_
  refine Cq.els rfl ?_
  refine Cq.skip ?_
  refine Eq.next ?_
  refine Cq.seq ?_
  refine Cq.seq ?_
  refine Cq.region ?_
  refine Sq.move .plain rfl rfl ?_
  refine Sq.lenStr .plain rfl und9 rfl ?_
  refine Sq.eql .plain rfl rfl rfl ?_
  refine Sq.part (fun e1 => ?_) (fun e1 => ?_)
  · refine Sq.move .plain rfl rfl ?_
    refine Sq.off rfl rfl rfl rfl rfl rfl ?_
    refine Sq.off rfl rfl rfl rfl rfl rfl ?_
    refine Sq.off rfl rfl rfl rfl rfl rfl ?_
    refine Sq.pickT .plain rfl rfl rfl ?_
    refine Sq.move .plain rfl rfl ?_
    refine Sq.off rfl rfl rfl rfl rfl rfl ?_
    refine Sq.off rfl rfl rfl rfl rfl rfl ?_
    refine Sq.off rfl rfl rfl rfl rfl rfl ?_
    refine Sq.off rfl rfl rfl rfl rfl rfl ?_
    refine Sq.offU rfl rfl rfl rfl rfl rfl ?_
    refine Sq.offU rfl rfl rfl rfl rfl rfl ?_
    refine Sq.offU rfl rfl rfl rfl rfl rfl ?_
    refine Sq.offU rfl rfl rfl rfl rfl rfl ?_
    refine Sq.offU rfl rfl rfl rfl rfl rfl ?_
    refine Sq.offU rfl rfl rfl rfl rfl rfl ?_
    refine Sq.off rfl rfl rfl rfl rfl rfl ?_
    refine Sq.pickT .plain rfl rfl rfl ?_
    refine Sq.nil ?_
    refine Eq.next ?_
    refine Cq.thn rfl ?_
    refine Cq.seq ?_
    refine Cq.region ?_
    refine Sq.assign .plain rfl rfl ?_
    refine Sq.assign .plain rfl rfl ?_
    refine Sq.nil ?_
    refine Eq.next ?_
    refine Cq.ret ?_
    refine Eq.pastRet ?_
    refine Eq.ret2 rfl rfl rfl ?_
    exact ⟨⟨_, _, rfl, by omega, by first | exact NumP.none (by omega) | exact NumP.long (by omega) | exact NumP.lead (by omega) e3⟩, rfl⟩
  refine Sq.move .plain rfl rfl ?_
  refine Sq.move (.met rfl rfl rfl) rfl rfl ?_
  refine Sq.lenStr (.met rfl rfl rfl) rfl und9 rfl ?_
  refine Sq.gtr (.met rfl rfl rfl) rfl rfl rfl ?_
  refine Sq.part (fun e2 => ?_) (fun e2 => ?_)
  · refine Sq.pickF .plain rfl rfl rfl ?_
    refine Sq.move .plain rfl rfl ?_
    refine Sq.off rfl rfl rfl rfl rfl rfl ?_
    refine Sq.off rfl rfl rfl rfl rfl rfl ?_
    refine Sq.off rfl rfl rfl rfl rfl rfl ?_
    refine Sq.off rfl rfl rfl rfl rfl rfl ?_
    refine Sq.offU rfl rfl rfl rfl rfl rfl ?_
    refine Sq.offU rfl rfl rfl rfl rfl rfl ?_
    refine Sq.offU rfl rfl rfl rfl rfl rfl ?_
    refine Sq.offU rfl rfl rfl rfl rfl rfl ?_
    refine Sq.offU rfl rfl rfl rfl rfl rfl ?_
    refine Sq.offU rfl rfl rfl rfl rfl rfl ?_
    refine Sq.off rfl rfl rfl rfl rfl rfl ?_
    refine Sq.pickT .plain rfl rfl rfl ?_
    refine Sq.nil ?_
    refine Eq.next ?_
    refine Cq.thn rfl ?_
    refine Cq.seq ?_
    refine Cq.region ?_
    refine Sq.assign .plain rfl rfl ?_
    refine Sq.assign .plain rfl rfl ?_
    refine Sq.nil ?_
    refine Eq.next ?_
    refine Cq.ret ?_
    refine Eq.pastRet ?_
    refine Eq.ret2 rfl rfl rfl ?_
    exact ⟨⟨_, _, rfl, by omega, by first | exact NumP.none (by omega) | exact NumP.long (by omega) | exact NumP.lead (by omega) e3⟩, rfl⟩
  refine Sq.pickF .plain rfl rfl rfl ?_
  refine Sq.move .plain rfl rfl ?_
  refine Sq.move (.met rfl rfl rfl) rfl rfl ?_
  refine Sq.idxStr (.met rfl rfl rfl) rfl und9 rfl rfl (by omega) (str_at (by omega)) ?_
  refine Sq.eql (.met rfl rfl rfl) rfl rfl rfl ?_
  refine Sq.part (fun e3 => ?_) (fun e3 => ?_)
  · refine Sq.move (.met rfl rfl rfl) rfl rfl ?_
    refine Sq.move (.met rfl rfl rfl) rfl rfl ?_
    refine Sq.lenStr (.met rfl rfl rfl) rfl und9 rfl ?_
    refine Sq.gtr (.met rfl rfl rfl) rfl rfl rfl ?_
    refine Sq.part (fun e4 => ?_) (fun e4 => ?_)
    · refine Sq.move (.met rfl rfl rfl) rfl rfl ?_
      refine Sq.off rfl rfl rfl rfl rfl rfl ?_
      refine Sq.pickT (.met rfl rfl rfl) rfl rfl rfl ?_
      refine Sq.pickT (.met rfl rfl rfl) rfl rfl rfl ?_
      refine Sq.pickF .plain rfl rfl rfl ?_
      refine Sq.nil ?_
      refine Eq.next ?_
      refine Cq.thn rfl ?_
      refine Cq.seq ?_
      refine Cq.region ?_
      refine Sq.assign .plain rfl rfl ?_
      refine Sq.assign .plain rfl rfl ?_
      refine Sq.nil ?_
      refine Eq.next ?_
      refine Cq.ret ?_
      refine Eq.pastRet ?_
      refine Eq.ret2 rfl rfl rfl ?_
      exact ⟨⟨_, _, rfl, by omega, by first | exact NumP.none (by omega) | exact NumP.long (by omega) | exact NumP.lead (by omega) e3⟩, rfl⟩
    refine Sq.move (.met rfl rfl rfl) rfl rfl ?_
    refine Sq.move (.met rfl rfl rfl) rfl rfl ?_
    refine Sq.pickF (.met rfl rfl rfl) rfl rfl rfl ?_
    refine Sq.pickT (.met rfl rfl rfl) rfl rfl rfl ?_
    refine Sq.pickF .plain rfl rfl rfl ?_
    refine Sq.nil ?_
    refine Eq.next ?_
    refine Cq.els rfl ?_
    refine Cq.skip ?_
    refine Eq.next ?_
    refine Cq.seq ?_
    refine Cq.region ?_
    refine Sq.assign .plain rfl rfl ?_
    refine Sq.nil ?_
    refine Eq.next ?_
    refine Cq.seq ?_
    refine Cq.seq ?_
    refine Cq.region ?_
    refine Sq.assign .plain rfl rfl ?_
    refine Sq.nil ?_
    refine Eq.next ?_
    refine Cq.block ?_
    refine Cq.loop (fun nn w ls => ∃ (k : Int), ∃ (n : Int), ls = [(0, Value.string s), (4, Value.bool false), (5, Value.int .i64 n), (6, Value.int .i64 k)] ∧ w0 = w ∧ (0 ≤ k ∧ k ≤ (s).size) ∧ ((s).size ≤ 17) ∧ (0 ≤ n ∧ n < 10 ^ k.toNat) ∧ n = decV (s) k.toNat ∧ nn = (((s).size : Int) - k).toNat) _ _ ⟨0, 0, rfl, rfl, by omega, by omega, by decide, rfl, rfl⟩ (.cons rfl (.cons rfl (.cons rfl (.cons rfl (.nil))))) ?_
    rintro n1 w ls ⟨k, n, rfl, rfl, hk, hz, hn, hv, rfl⟩
    have hp := pow_small (k := k.toNat) (by omega)
    refine Cq.seq ?_
    refine Cq.seq ?_
    refine Cq.region ?_
    refine Sq.move .plain rfl rfl ?_
    refine Sq.move .plain rfl rfl ?_
    refine Sq.lenStr .plain rfl und9 rfl ?_
    refine Sq.lss .plain rfl rfl rfl ?_
    refine Sq.part (fun c18 => ?_) (fun c18 => ?_)
    · refine Sq.nil ?_
      refine Eq.next ?_
      refine Cq.thn rfl ?_
      refine Cq.skip ?_
      refine Eq.next ?_
      refine Cq.seq ?_
      refine Cq.block ?_
      refine Cq.seq ?_
      refine Cq.seq ?_
      refine Cq.region ?_
      refine Sq.move .plain rfl rfl ?_
      refine Sq.move .plain rfl rfl ?_
      refine Sq.idxStr .plain rfl und9 rfl rfl (by omega) (str_at (by omega)) ?_
      refine Sq.lss .plain rfl rfl rfl ?_
      refine Sq.part (fun d1 => ?_) (fun d1 => ?_)
      · refine Sq.move .plain rfl rfl ?_
        refine Sq.off rfl rfl rfl rfl rfl rfl ?_
        refine Sq.off rfl rfl rfl rfl rfl rfl ?_
        refine Sq.off rfl rfl rfl rfl rfl rfl ?_
        refine Sq.off rfl rfl rfl rfl rfl rfl ?_
        refine Sq.pickT .plain rfl rfl rfl ?_
        refine Sq.nil ?_
        refine Eq.next ?_
        refine Cq.thn rfl ?_
        refine Cq.seq ?_
        refine Cq.region ?_
        refine Sq.assign .plain rfl rfl ?_
        refine Sq.assign .plain rfl rfl ?_
        refine Sq.nil ?_
        refine Eq.next ?_
        refine Cq.ret ?_
        refine Eq.pastRet ?_
        refine Eq.outRet ?_
        refine Eq.pastRet ?_
        refine Eq.pastRet ?_
        refine Eq.outRet ?_
        refine Eq.pastRet ?_
        refine Eq.ret2 rfl rfl rfl ?_
        exact ⟨⟨_, _, rfl, by omega, NumP.digit (k := k.toNat) (by omega) (by omega)⟩, rfl⟩
      refine Sq.move .plain rfl rfl ?_
      refine Sq.move (.met rfl rfl rfl) rfl rfl ?_
      refine Sq.move (.met rfl rfl rfl) rfl rfl ?_
      refine Sq.idxStr (.met rfl rfl rfl) rfl und9 rfl rfl (by omega) (str_at (by omega)) ?_
      refine Sq.gtr (.met rfl rfl rfl) rfl rfl rfl ?_
      refine Sq.part (fun d2 => ?_) (fun d2 => ?_)
      · refine Sq.pickF .plain rfl rfl rfl ?_
        refine Sq.nil ?_
        refine Eq.next ?_
        refine Cq.thn rfl ?_
        refine Cq.seq ?_
        refine Cq.region ?_
        refine Sq.assign .plain rfl rfl ?_
        refine Sq.assign .plain rfl rfl ?_
        refine Sq.nil ?_
        refine Eq.next ?_
        refine Cq.ret ?_
        refine Eq.pastRet ?_
        refine Eq.outRet ?_
        refine Eq.pastRet ?_
        refine Eq.pastRet ?_
        refine Eq.outRet ?_
        refine Eq.pastRet ?_
        refine Eq.ret2 rfl rfl rfl ?_
        exact ⟨⟨_, _, rfl, by omega, NumP.digit (k := k.toNat) (by omega) (by omega)⟩, rfl⟩
      refine Sq.pickF .plain rfl rfl rfl ?_
      refine Sq.nil ?_
      refine Eq.next ?_
      refine Cq.els rfl ?_
      refine Cq.skip ?_
      refine Eq.next ?_
      refine Cq.region ?_
      refine Sq.move .plain rfl rfl ?_
      refine Sq.mul .plain rfl rfl rfl (by omega) ?_
      refine Sq.move .plain rfl rfl ?_
      refine Sq.move .plain rfl rfl ?_
      refine Sq.idxStr .plain rfl und9 rfl rfl (by omega) (str_at (by omega)) ?_
      refine Sq.sub8 .plain rfl rfl rfl (by omega) ?_
      refine Sq.conv conv5_3 .plain rfl rfl (by omega) ?_
      refine Sq.add .plain rfl rfl rfl (by omega) ?_
      refine Sq.assign .plain rfl rfl ?_
      refine Sq.nil ?_
      refine Eq.end ?_
      refine Eq.next ?_
      refine Cq.region ?_
      refine Sq.move .plain rfl rfl ?_
      refine Sq.add .plain rfl rfl rfl (by omega) ?_
      refine Sq.assign .plain rfl rfl ?_
      refine Sq.nil ?_
      have e1 := toNat_succ hk.1
      refine Eq.round _ _ ⟨k + 1, _, rfl, rfl, by omega, hz, by rw [e1]; exact pow_step hn (by omega), by rw [e1, decV_succ (by omega), ← hv], rfl⟩ (by omega) (.cons rfl (.cons rfl (.cons rfl (.cons rfl (.nil)))))
    refine Sq.nil ?_
    refine Eq.next ?_
    refine Cq.els rfl ?_
    refine Cq.exit ?_
    refine Eq.past ?_
    refine Eq.past ?_
    refine Eq.hit ?_
    refine Eq.next ?_
    refine Cq.seq ?_
    refine Cq.seq ?_
    refine Cq.region ?_
    refine Sq.move .plain rfl rfl ?_
    refine Sq.nil ?_
    refine Eq.next ?_
    refine Cq.els rfl ?_
    refine Cq.skip ?_
    refine Eq.next ?_
    refine Cq.seq ?_
    refine Cq.region ?_
    refine Sq.move .plain rfl rfl ?_
    refine Sq.assign .plain rfl rfl ?_
    refine Sq.assign .plain rfl rfl ?_
    refine Sq.nil ?_
    refine Eq.next ?_
    refine Cq.ret ?_
    refine Eq.ret2 rfl rfl rfl ?_
    exact ⟨⟨_, _, rfl, by omega, by rw [hv]; exact NumP.good (by omega)⟩, rfl⟩
  refine Sq.move (.met rfl rfl rfl) rfl rfl ?_
  refine Sq.off rfl rfl rfl rfl rfl rfl ?_
  refine Sq.off rfl rfl rfl rfl rfl rfl ?_
  refine Sq.off rfl rfl rfl rfl rfl rfl ?_
  refine Sq.off rfl rfl rfl rfl rfl rfl ?_
  refine Sq.offU rfl rfl rfl rfl rfl rfl ?_
  refine Sq.off rfl rfl rfl rfl rfl rfl ?_
  refine Sq.pickF (.met rfl rfl rfl) rfl rfl rfl ?_
  refine Sq.pickF .plain rfl rfl rfl ?_
  refine Sq.nil ?_
  refine Eq.next ?_
  refine Cq.els rfl ?_
  refine Cq.skip ?_
  refine Eq.next ?_
  refine Cq.seq ?_
  refine Cq.region ?_
  refine Sq.assign .plain rfl rfl ?_
  refine Sq.nil ?_
  refine Eq.next ?_
  refine Cq.seq ?_
  refine Cq.seq ?_
  refine Cq.region ?_
  refine Sq.assign .plain rfl rfl ?_
  refine Sq.nil ?_
  refine Eq.next ?_
  refine Cq.block ?_
  refine Cq.loop (fun nn w ls => ∃ (k : Int), ∃ (n : Int), ls = [(0, Value.string s), (4, Value.bool false), (5, Value.int .i64 n), (6, Value.int .i64 k)] ∧ w0 = w ∧ (0 ≤ k ∧ k ≤ (s).size) ∧ ((s).size ≤ 17) ∧ (0 ≤ n ∧ n < 10 ^ k.toNat) ∧ n = decV (s) k.toNat ∧ nn = (((s).size : Int) - k).toNat) _ _ ⟨0, 0, rfl, rfl, by omega, by omega, by decide, rfl, rfl⟩ (.cons rfl (.cons rfl (.cons rfl (.cons rfl (.nil))))) ?_
  rintro n1 w ls ⟨k, n, rfl, rfl, hk, hz, hn, hv, rfl⟩
  have hp := pow_small (k := k.toNat) (by omega)
  refine Cq.seq ?_
  refine Cq.seq ?_
  refine Cq.region ?_
  refine Sq.move .plain rfl rfl ?_
  refine Sq.move .plain rfl rfl ?_
  refine Sq.lenStr .plain rfl und9 rfl ?_
  refine Sq.lss .plain rfl rfl rfl ?_
  refine Sq.part (fun c22 => ?_) (fun c22 => ?_)
  · refine Sq.nil ?_
    refine Eq.next ?_
    refine Cq.thn rfl ?_
    refine Cq.skip ?_
    refine Eq.next ?_
    refine Cq.seq ?_
    refine Cq.block ?_
    refine Cq.seq ?_
    refine Cq.seq ?_
    refine Cq.region ?_
    refine Sq.move .plain rfl rfl ?_
    refine Sq.move .plain rfl rfl ?_
    refine Sq.idxStr .plain rfl und9 rfl rfl (by omega) (str_at (by omega)) ?_
    refine Sq.lss .plain rfl rfl rfl ?_
    refine Sq.part (fun d1 => ?_) (fun d1 => ?_)
    · refine Sq.move .plain rfl rfl ?_
      refine Sq.off rfl rfl rfl rfl rfl rfl ?_
      refine Sq.off rfl rfl rfl rfl rfl rfl ?_
      refine Sq.off rfl rfl rfl rfl rfl rfl ?_
      refine Sq.off rfl rfl rfl rfl rfl rfl ?_
      refine Sq.pickT .plain rfl rfl rfl ?_
      refine Sq.nil ?_
      refine Eq.next ?_
      refine Cq.thn rfl ?_
      refine Cq.seq ?_
      refine Cq.region ?_
      refine Sq.assign .plain rfl rfl ?_
      refine Sq.assign .plain rfl rfl ?_
      refine Sq.nil ?_
      refine Eq.next ?_
      refine Cq.ret ?_
      refine Eq.pastRet ?_
      refine Eq.outRet ?_
      refine Eq.pastRet ?_
      refine Eq.pastRet ?_
      refine Eq.outRet ?_
      refine Eq.pastRet ?_
      refine Eq.ret2 rfl rfl rfl ?_
      exact ⟨⟨_, _, rfl, by omega, NumP.digit (k := k.toNat) (by omega) (by omega)⟩, rfl⟩
    refine Sq.move .plain rfl rfl ?_
    refine Sq.move (.met rfl rfl rfl) rfl rfl ?_
    refine Sq.move (.met rfl rfl rfl) rfl rfl ?_
    refine Sq.idxStr (.met rfl rfl rfl) rfl und9 rfl rfl (by omega) (str_at (by omega)) ?_
    refine Sq.gtr (.met rfl rfl rfl) rfl rfl rfl ?_
    refine Sq.part (fun d2 => ?_) (fun d2 => ?_)
    · refine Sq.pickF .plain rfl rfl rfl ?_
      refine Sq.nil ?_
      refine Eq.next ?_
      refine Cq.thn rfl ?_
      refine Cq.seq ?_
      refine Cq.region ?_
      refine Sq.assign .plain rfl rfl ?_
      refine Sq.assign .plain rfl rfl ?_
      refine Sq.nil ?_
      refine Eq.next ?_
      refine Cq.ret ?_
      refine Eq.pastRet ?_
      refine Eq.outRet ?_
      refine Eq.pastRet ?_
      refine Eq.pastRet ?_
      refine Eq.outRet ?_
      refine Eq.pastRet ?_
      refine Eq.ret2 rfl rfl rfl ?_
      exact ⟨⟨_, _, rfl, by omega, NumP.digit (k := k.toNat) (by omega) (by omega)⟩, rfl⟩
    refine Sq.pickF .plain rfl rfl rfl ?_
    refine Sq.nil ?_
    refine Eq.next ?_
    refine Cq.els rfl ?_
    refine Cq.skip ?_
    refine Eq.next ?_
    refine Cq.region ?_
    refine Sq.move .plain rfl rfl ?_
    refine Sq.mul .plain rfl rfl rfl (by omega) ?_
    refine Sq.move .plain rfl rfl ?_
    refine Sq.move .plain rfl rfl ?_
    refine Sq.idxStr .plain rfl und9 rfl rfl (by omega) (str_at (by omega)) ?_
    refine Sq.sub8 .plain rfl rfl rfl (by omega) ?_
    refine Sq.conv conv5_3 .plain rfl rfl (by omega) ?_
    refine Sq.add .plain rfl rfl rfl (by omega) ?_
    refine Sq.assign .plain rfl rfl ?_
    refine Sq.nil ?_
    refine Eq.end ?_
    refine Eq.next ?_
    refine Cq.region ?_
    refine Sq.move .plain rfl rfl ?_
    refine Sq.add .plain rfl rfl rfl (by omega) ?_
    refine Sq.assign .plain rfl rfl ?_
    refine Sq.nil ?_
    have e1 := toNat_succ hk.1
    refine Eq.round _ _ ⟨k + 1, _, rfl, rfl, by omega, hz, by rw [e1]; exact pow_step hn (by omega), by rw [e1, decV_succ (by omega), ← hv], rfl⟩ (by omega) (.cons rfl (.cons rfl (.cons rfl (.cons rfl (.nil)))))
  refine Sq.nil ?_
  refine Eq.next ?_
  refine Cq.els rfl ?_
  refine Cq.exit ?_
  refine Eq.past ?_
  refine Eq.past ?_
  refine Eq.hit ?_
  refine Eq.next ?_
  refine Cq.seq ?_
  refine Cq.seq ?_
  refine Cq.region ?_
  refine Sq.move .plain rfl rfl ?_
  refine Sq.nil ?_
  refine Eq.next ?_
  refine Cq.els rfl ?_
  refine Cq.skip ?_
  refine Eq.next ?_
  refine Cq.seq ?_
  refine Cq.region ?_
  refine Sq.move .plain rfl rfl ?_
  refine Sq.assign .plain rfl rfl ?_
  refine Sq.assign .plain rfl rfl ?_
  refine Sq.nil ?_
  refine Eq.next ?_
  refine Cq.ret ?_
  refine Eq.ret2 rfl rfl rfl ?_
  exact ⟨⟨_, _, rfl, by omega, by rw [hv]; exact NumP.good (by omega)⟩, rfl⟩
set_option maxRecDepth 100000 in
theorem l3Parse2_c (s : ByteArray) (hs : s.size ≤ 2000000) (w0 : World) : Ret Tryz.prog 35 #[Value.string s] w0 (fun v w => (∃ (r : Value) (ok : Bool) (xs : List Int), v = .tuple #[r, .bool ok] ∧ Own w w0.heap.size 3 r (xs.map (Value.int .i64)) ∧ RowP s ok xs) ∧ Ext w0 w) := by
  have E := Ext.refl w0
  refine Ret.of (args := [Value.string s]) Tryz.func35 rfl rfl rfl ?_
  rintro _ rfl
  show Cq _ _ _ _ [(0, Value.string s)] _
  refine Cq.seq ?_
  refine Cq.region ?_
  refine Sq.assign .plain rfl rfl ?_
  refine Sq.assign .plain rfl rfl ?_
  refine Sq.nil ?_
  refine Eq.next ?_
  refine Cq.seq ?_
  refine Cq.region ?_
  refine Sq.lit sl36 rfl rfl .plain rfl rfl one_nil (fun b1 w2 e3 hlo4 ho5 _ => ?_)
  replace ho5 := ho5 w0.heap.size (Nat.le_refl _)
  have hs7 := Below.size e3
  replace E := E.trans e3
  refine Sq.assign .plain rfl rfl ?_
  refine Sq.nil ?_
  refine Eq.next ?_
  refine Cq.seq ?_
  refine Cq.seq ?_
  refine Cq.region ?_
  refine Sq.move .plain rfl rfl ?_
  refine Sq.eqlS .plain rfl rfl rfl ?_
  refine Sq.part (fun hem => ?_) (fun hem => ?_)
  · refine Sq.nil ?_
    refine Eq.next ?_
    refine Cq.thn rfl ?_
    refine Cq.seq ?_
    refine Cq.region ?_
    refine Sq.move .plain rfl rfl ?_
    refine Sq.assign .plain rfl rfl ?_
    refine Sq.assign .plain rfl rfl ?_
    refine Sq.nil ?_
    refine Eq.next ?_
    refine Cq.ret ?_
    refine Eq.pastRet ?_
    refine Eq.ret2 rfl rfl rfl ?_
    exact ⟨⟨_, _, [], rfl, Own.mono ho5 (by omega), by rw [show s = ⟨#[]⟩ from bytes_ext hem]; exact RowP.nil⟩, E⟩
  refine Sq.nil ?_
  refine Eq.next ?_
  refine Cq.els rfl ?_
  refine Cq.skip ?_
  refine Eq.next ?_
  refine Cq.seq ?_
  refine Cq.region ?_
  refine Sq.move .plain rfl rfl ?_
  refine Sq.call fn33 .plain rfl rfl (cut2_c s 44 44 (by decide) (by omega) _) ?_
  rintro v8 w9 ⟨⟨ho11, hxl12, hxs13⟩, e10⟩
  have hs14 := Below.size E
  have hs15 := Below.size e10
  replace E := E.trans e10
  replace ho5 := ho5.ext e10
  refine Sq.assign .plain rfl rfl ?_
  refine Sq.nil ?_
  refine Eq.next ?_
  refine Cq.seq ?_
  refine Cq.seq ?_
  refine Cq.region ?_
  refine Sq.assign .plain rfl rfl ?_
  refine Sq.nil ?_
  refine Eq.next ?_
  refine Cq.block ?_
  have h0 : ¬ s = ⟨#[]⟩ := fun e => hem (by rw [e])
  refine Cq.loop (fun nn w ls => ∃ (k : Int), ∃ (v : Value), ∃ (ys : List Int), ls = [(0, Value.string s), (4, v), (5, v8), (6, Value.int .i64 k)] ∧ (0 ≤ k ∧ k ≤ (cuts 44 s).length) ∧ Own w w0.heap.size 3 v (ys.map (Value.int .i64)) ∧ ((ys.length : Int) = k) ∧ RowI s k.toNat ys ∧ Ext w0 w ∧ Own w w2.heap.size 9 v8 ((cuts 44 s).map Value.string) ∧ nn = (((cuts 44 s).length : Int) - k).toNat) _ _ ⟨0, _, [], rfl, by omega, Own.mono ho5 (by omega), rfl, fun row _ _ => by simp, E, ho11, rfl⟩ (.cons rfl (.cons rfl (.cons rfl (.cons rfl (.nil))))) ?_
  rintro nn wl1 ls ⟨k, v, ys, rfl, hk, ho, hl, hri, E, ho11, rfl⟩
  have hs16 := Below.size E
  refine Cq.seq ?_
  refine Cq.seq ?_
  refine Cq.region ?_
  refine Sq.move .plain rfl rfl ?_
  refine Sq.move .plain rfl rfl ?_
  refine Sq.lenStrs (Own.row ho11) .plain rfl und37 rfl ?_
  refine Sq.lss .plain rfl rfl rfl ?_
  refine Sq.part (fun c17 => ?_) (fun c17 => ?_)
  · refine Sq.nil ?_
    refine Eq.next ?_
    refine Cq.thn rfl ?_
    refine Cq.skip ?_
    refine Eq.next ?_
    refine Cq.seq ?_
    refine Cq.block ?_
    refine Cq.seq ?_
    refine Cq.region ?_
    refine Sq.move .plain rfl rfl ?_
    refine Sq.move .plain rfl rfl ?_
    refine Sq.idxStrs sl37 one9 (Own.row ho11) .plain rfl rfl rfl .plain rfl rfl (by omega) (by omega) ?_
    refine Sq.call fn53 .plain rfl rfl (num2_c (((cuts 44 s).getD k.toNat ByteArray.empty)) (by exact Nat.le_trans (hxs13 _ (getD_mem (by omega))) (by omega)) _) ?_
    rintro _ _ ⟨⟨n18, ok19, rfl, hn20, hnp21⟩, rfl⟩
    refine Sq.move .plain rfl rfl ?_
    refine Sq.extract .plain rfl rfl rfl ?_
    refine Sq.extract .plain rfl rfl rfl ?_
    refine Sq.assign .plain rfl rfl ?_
    refine Sq.assign .plain rfl rfl ?_
    refine Sq.nil ?_
    refine Eq.next ?_
    refine Cq.seq ?_
    refine Cq.seq ?_
    refine Cq.region ?_
    refine Sq.move .plain rfl rfl ?_
    refine Sq.partB (fun hok => ?_) (fun hok => ?_)
    · refine Sq.notT .plain rfl rfl ?_
      refine Sq.nil ?_
      refine Eq.next ?_
      refine Cq.els rfl ?_
      refine Cq.skip ?_
      refine Eq.next ?_
      refine Cq.region ?_
      refine Sq.move .plain rfl rfl ?_
      refine Sq.move .plain rfl rfl ?_
      refine Sq.app1 sl36 ho (by omega) (by simp; omega) .plain rfl rfl rfl rfl rfl rfl rfl (fun v22 w23 ho25 g24 _ => ?_)
      have hs26 := g24.size
      replace E := E.owned ho g24 (by omega)
      replace ho11 := ho11.owned ho g24 (by decide)
      refine Sq.assign .plain rfl rfl ?_
      refine Sq.nil ?_
      refine Eq.end ?_
      refine Eq.next ?_
      refine Cq.region ?_
      refine Sq.move .plain rfl rfl ?_
      refine Sq.add .plain rfl rfl rfl (by omega) ?_
      refine Sq.assign .plain rfl rfl ?_
      refine Sq.nil ?_
      have e1 := toNat_succ hk.1
      refine Eq.round _ _ ⟨k + 1, _, _, rfl, by omega, Own.snocI ho25, by simp; omega, by rw [e1]; exact hri.step h0 (by omega) (hnp21.flag hok), E, ho11, rfl⟩ (by omega) (.cons rfl (.cons rfl (.cons rfl (.cons rfl (.nil)))))
    refine Sq.notF .plain rfl rfl ?_
    refine Sq.nil ?_
    refine Eq.next ?_
    refine Cq.thn rfl ?_
    refine Cq.seq ?_
    refine Cq.region ?_
    refine Sq.assign .plain rfl rfl ?_
    refine Sq.assign .plain rfl rfl ?_
    refine Sq.nil ?_
    refine Eq.next ?_
    refine Cq.ret ?_
    refine Eq.pastRet ?_
    refine Eq.outRet ?_
    refine Eq.pastRet ?_
    refine Eq.pastRet ?_
    refine Eq.outRet ?_
    refine Eq.pastRet ?_
    refine Eq.ret2 rfl rfl rfl ?_
    exact ⟨⟨_, _, [], rfl, Own.nil _ _ _, RowI.fail h0 (k := k.toNat) (by omega) (hnp21.flag hok)⟩, E⟩
  refine Sq.nil ?_
  refine Eq.next ?_
  refine Cq.els rfl ?_
  refine Cq.exit ?_
  refine Eq.past ?_
  refine Eq.past ?_
  refine Eq.hit ?_
  refine Eq.next ?_
  refine Cq.seq ?_
  refine Cq.region ?_
  refine Sq.move .plain rfl rfl ?_
  refine Sq.assign .plain rfl rfl ?_
  refine Sq.assign .plain rfl rfl ?_
  refine Sq.nil ?_
  refine Eq.next ?_
  refine Cq.ret ?_
  refine Eq.ret2 rfl rfl rfl ?_
  exact ⟨⟨_, _, ys, rfl, ho, hri.done h0 (by omega)⟩, E⟩
set_option maxRecDepth 100000 in
theorem parseAl2_c (s : ByteArray) (w0 : World) : Ret Tryz.prog 34 #[Value.string s] w0 (fun v w => (∃ n ok, v = .tuple #[.int .i64 n, .bool ok] ∧ (0 ≤ n ∧ n ≤ 63) ∧ AlP s ok n) ∧ Ext w0 w) := by
  have E := Ext.refl w0
  refine Ret.of (args := [Value.string s]) Tryz.func34 rfl rfl rfl ?_
  rintro _ rfl
  show Cq _ _ _ _ [(0, Value.string s)] _
  refine Cq.seq ?_
  refine Cq.region ?_
  refine Sq.assign .plain rfl rfl ?_
  refine Sq.assign .plain rfl rfl ?_
  refine Sq.nil ?_
  refine Eq.next ?_
  refine Cq.seq ?_
  refine Cq.seq ?_
  refine Cq.region ?_
  refine Sq.assign .plain rfl rfl ?_
  refine Sq.nil ?_
  refine Eq.next ?_
  refine Cq.block ?_
  refine Cq.loop (fun nn w ls => ∃ (k : Int), ls = [(0, Value.string s), (4, Value.int .i64 k)] ∧ (0 ≤ k ∧ k ≤ 64) ∧ (∀ al, 0 ≤ al ∧ al < k → ¬ fmtAl al = s) ∧ Ext w0 w ∧ nn = (64 - k).toNat) _ _ ⟨0, rfl, by omega, fun al h => by omega, E, rfl⟩ (.cons rfl (.cons rfl (.nil))) ?_
  rintro nn wl1 ls ⟨k, rfl, hk, hno, E, rfl⟩
  have hs1 := Below.size E
  refine Cq.seq ?_
  refine Cq.seq ?_
  refine Cq.region ?_
  refine Sq.move .plain rfl rfl ?_
  refine Sq.leq .plain rfl rfl rfl ?_
  refine Sq.part (fun c2 => ?_) (fun c2 => ?_)
  · refine Sq.nil ?_
    refine Eq.next ?_
    refine Cq.thn rfl ?_
    refine Cq.skip ?_
    refine Eq.next ?_
    refine Cq.seq ?_
    refine Cq.block ?_
    refine Cq.seq ?_
    refine Cq.region ?_
    refine Sq.move .plain rfl rfl ?_
    refine Sq.call fn19 .plain rfl rfl (fmtAl_c k _) ?_
    rintro _ w4 ⟨rfl, e5⟩
    have hs6 := Below.size E
    have hs7 := Below.size e5
    replace E := E.trans e5
    refine Sq.move .plain rfl rfl ?_
    refine Sq.eqlS .plain rfl rfl rfl ?_
    refine Sq.part (fun heq => ?_) (fun heq => ?_)
    · refine Sq.nil ?_
      refine Eq.next ?_
      refine Cq.thn rfl ?_
      refine Cq.seq ?_
      refine Cq.region ?_
      refine Sq.move .plain rfl rfl ?_
      refine Sq.assign .plain rfl rfl ?_
      refine Sq.assign .plain rfl rfl ?_
      refine Sq.nil ?_
      refine Eq.next ?_
      refine Cq.ret ?_
      refine Eq.outRet ?_
      refine Eq.pastRet ?_
      refine Eq.pastRet ?_
      refine Eq.outRet ?_
      refine Eq.pastRet ?_
      refine Eq.ret2 rfl rfl rfl ?_
      exact ⟨⟨_, _, rfl, by omega, fun _ => bytes_ext heq, fun al hal e => ⟨rfl, fmtAl_inj (by omega) hal ((bytes_ext heq).trans e.symm)⟩⟩, E⟩
    refine Sq.nil ?_
    refine Eq.next ?_
    refine Cq.els rfl ?_
    refine Cq.skip ?_
    refine Eq.end ?_
    refine Eq.next ?_
    refine Cq.region ?_
    refine Sq.move .plain rfl rfl ?_
    refine Sq.add .plain rfl rfl rfl (by omega) ?_
    refine Sq.assign .plain rfl rfl ?_
    refine Sq.nil ?_
    refine Eq.round _ _ ⟨k + 1, rfl, by omega, fun al h e => by rcases Int.lt_or_le al k with h1 | h1; exact hno al ⟨h.1, h1⟩ e; exact heq (by rw [← e, show al = k by omega]), E, rfl⟩ (by omega) (.cons rfl (.cons rfl (.nil)))
  refine Sq.nil ?_
  refine Eq.next ?_
  refine Cq.els rfl ?_
  refine Cq.exit ?_
  refine Eq.past ?_
  refine Eq.past ?_
  refine Eq.hit ?_
  refine Eq.next ?_
  refine Cq.seq ?_
  refine Cq.region ?_
  refine Sq.assign .plain rfl rfl ?_
  refine Sq.assign .plain rfl rfl ?_
  refine Sq.nil ?_
  refine Eq.next ?_
  refine Cq.ret ?_
  refine Eq.ret2 rfl rfl rfl ?_
  exact ⟨⟨_, _, rfl, by omega, (fun h => by cases h), fun al hal e => (hno al ⟨hal.1, by omega⟩ e).elim⟩, E⟩
end Go.Proofs.YtnckpafknojdhaaGreatDoor
set_option linter.unusedSimpArgs false
set_option linter.unusedVariables false
namespace Go.Proofs.YtnckpafknojdhaaGreatDoor
open Go.RowKit
set_option maxRecDepth 100000 in
theorem parseA2_c (s : ByteArray) (hs : s.size ≤ 2000000) (w0 : World) : Ret Tryz.prog 12 #[Value.string s] w0 (fun v w => (∃ (u : Value) (ok : Bool) (a : A), v = .tuple #[u, .bool ok] ∧ OwnA w w0.heap.size u a ∧ Parsed s ok a) ∧ Ext w0 w) := by
  have E := Ext.refl w0
  refine Ret.of (args := [Value.string s]) Tryz.func12 rfl rfl rfl ?_
  rintro _ rfl
  show Cq _ _ _ _ [(0, Value.string s)] _
  refine Cq.seq ?_
  refine Cq.region ?_
  refine Sq.alloc zero26 .plain rfl (fun b1 w2 e3 hB4 hlo5 => ?_)
  have hd6 := Nat.le_trans (Below.size E) hlo5
  have hs7 := Below.size e3
  replace E := E.trans e3
  refine Sq.assign .plain rfl rfl ?_
  refine Sq.nil ?_
  refine Eq.next ?_
  refine Cq.seq ?_
  refine Cq.region ?_
  refine Sq.move .plain rfl rfl ?_
  have hd14 := hB4.lt
  refine Sq.call fn33 .plain rfl rfl (cut2_c s 32 32 (by decide) (by omega) _) ?_
  rintro v8 w9 ⟨⟨ho11, hxl12, hxs13⟩, e10⟩
  have hs15 := Below.size E
  have hs16 := Below.size e10
  replace E := E.trans e10
  replace hB4 := hB4.ext e10
  refine Sq.assign .plain rfl rfl ?_
  refine Sq.nil ?_
  refine Eq.next ?_
  refine Cq.seq ?_
  refine Cq.region ?_
  refine Sq.move .plain rfl rfl ?_
  refine Sq.idxStrs sl37 one9 (Own.row ho11) .plain rfl rfl rfl .plain rfl rfl (by omega) (by omega) ?_
  have hd24 := hB4.lt
  refine Sq.call fn34 .plain rfl rfl (parseAl2_c (((cuts 32 s).getD (0 : Int).toNat ByteArray.empty)) _) ?_
  rintro _ w18 ⟨⟨n20, ok21, rfl, hn22, hap23⟩, e19⟩
  have hs25 := Below.size E
  have hs26 := Below.size e19
  replace E := E.trans e19
  replace hB4 := hB4.ext e19
  replace ho11 := ho11.ext e19
  refine Sq.move .plain rfl rfl ?_
  refine Sq.extract .plain rfl rfl rfl ?_
  refine Sq.extract .plain rfl rfl rfl ?_
  refine Sq.assign .plain rfl rfl ?_
  refine Sq.assign .plain rfl rfl ?_
  refine Sq.nil ?_
  refine Eq.next ?_
  refine Cq.seq ?_
  refine Cq.seq ?_
  refine Cq.region ?_
  refine Sq.move .plain rfl rfl ?_
  refine Sq.partB (fun hok => ?_) (fun hok => ?_)
  · refine Sq.notT .plain rfl rfl ?_
    refine Sq.nil ?_
    refine Eq.next ?_
    refine Cq.els rfl ?_
    refine Cq.skip ?_
    refine Eq.next ?_
    refine Cq.seq ?_
    refine Cq.region ?_
    refine Sq.move .plain rfl rfl ?_
    refine Sq.build st26 rfl rfl .plain rfl rfl (one_cons rfl one_nil) rfl ?_
    refine Sq.alloc zero26 .plain rfl (fun b27 w28 e29 hB30 hlo31 => ?_)
    have hd32 := Nat.le_trans (Below.size E) hlo31
    have hd33 := Nat.lt_of_lt_of_le hB4.lt hlo31
    have hs34 := Below.size e29
    replace E := E.trans e29
    replace hB4 := hB4.ext e29
    replace ho11 := ho11.ext e29
    refine Sq.storeAgg agg26 .plain rfl rfl (one_cons rfl (one_cons rfl (one_cons rfl one_nil))) hB30 rfl rfl (fun w35 g36 hB37 => ?_)
    have hs38 := World.grownBy.size g36
    replace E := E.grown g36 (fun k hk => by injection hk with hk; subst hk; omega)
    replace hB4 := hB4.grown g36 (by intro h; injection h with h; omega)
    replace ho11 := ho11.stored g36 hB30 (by decide)
    replace hB30 := hB37
    refine Sq.nil ?_
    refine Eq.next ?_
    refine Cq.seq ?_
    refine Cq.seq ?_
    refine Cq.region ?_
    refine Sq.assign .plain rfl rfl ?_
    refine Sq.nil ?_
    refine Eq.next ?_
    refine Cq.block ?_
    refine Cq.loop (fun nn w ls => ∃ (i : Int), ∃ (nxv : Value), ∃ (acv : Value), ∃ (xss : List (List Int)), ∃ (ys : List Bool), ls = [(0, Value.string s), (2, Value.pointer (some ⟨b1, 0, none⟩)), (4, v8), (7, Value.pointer (some ⟨b27, 0, none⟩)), (8, Value.int .i64 i)] ∧ (1 ≤ i ∧ i ≤ (cuts 32 s).length) ∧ Blk w b27 26 [Value.int .i64 n20, nxv, acv] ∧ OwnRows w w0.heap.size w.heap.size 36 3 nxv xss ∧ Own w w0.heap.size 4 acv (ys.map Value.bool) ∧ ((xss.length : Int) = i - 1 ∧ (ys.length : Int) = i - 1) ∧ Agr s n20 (i.toNat - 1) xss ys ∧ Ext w0 w ∧ Blk w b1 26 [Value.int .i64 0, Value.slice none 0 0, Value.slice none 0 0] ∧ Own w w2.heap.size 9 v8 ((cuts 32 s).map Value.string) ∧ nn = (((cuts 32 s).length : Int) - i).toNat) _ _ ⟨1, _, _, [], [], rfl, by omega, hB30, OwnRows.nil _ _ _ _ _, Own.nil _ _ _, by simp, Agr.start hap23, E, hB4, ho11, rfl⟩ (.cons rfl (.cons rfl (.cons rfl (.cons rfl (.cons rfl (.nil)))))) ?_
    rintro nn wl1 ls ⟨i, nxv, acv, xss, ys, rfl, hi, hB7, hor, hoa, hxl, hag, E, hB4, ho11, rfl⟩
    have hs39 := Below.size E
    refine Cq.seq ?_
    refine Cq.seq ?_
    refine Cq.region ?_
    refine Sq.move .plain rfl rfl ?_
    refine Sq.move .plain rfl rfl ?_
    refine Sq.lenStrs (Own.row ho11) .plain rfl und37 rfl ?_
    refine Sq.lss .plain rfl rfl rfl ?_
    refine Sq.part (fun c40 => ?_) (fun c40 => ?_)
    · refine Sq.nil ?_
      refine Eq.next ?_
      refine Cq.thn rfl ?_
      refine Cq.skip ?_
      refine Eq.next ?_
      refine Cq.seq ?_
      refine Cq.block ?_
      refine Cq.seq ?_
      refine Cq.seq ?_
      refine Cq.region ?_
      refine Sq.move .plain rfl rfl ?_
      refine Sq.move .plain rfl rfl ?_
      refine Sq.idxStrs sl37 one9 (Own.row ho11) .plain rfl rfl rfl .plain rfl rfl (by omega) (by omega) ?_
      refine Sq.eqlS .plain rfl rfl rfl ?_
      refine Sq.part (fun hne => ?_) (fun hne => ?_)
      · refine Sq.nil ?_
        refine Eq.next ?_
        refine Cq.thn rfl ?_
        refine Cq.seq ?_
        refine Cq.region ?_
        refine Sq.build st26 rfl rfl .plain rfl rfl one_nil rfl ?_
        refine Sq.storeAgg agg26 .plain rfl rfl (one_cons rfl (one_cons rfl (one_cons rfl one_nil))) hB4 rfl rfl (fun w41 g42 hB43 => ?_)
        have hs44 := World.grownBy.size g42
        replace E := E.grown g42 (fun k hk => by injection hk with hk; subst hk; omega)
        replace hB4 := hB43
        refine Sq.assign .plain rfl rfl ?_
        refine Sq.nil ?_
        refine Eq.next ?_
        refine Cq.ret ?_
        refine Eq.pastRet ?_
        refine Eq.outRet ?_
        refine Eq.pastRet ?_
        refine Eq.pastRet ?_
        refine Eq.outRet ?_
        refine Eq.pastRet ?_
        refine Eq.retCell2 rfl rfl agg26 hB4 rfl rfl ?_
        exact ⟨⟨_, _, zeroA, rfl, ⟨_, _, rfl, OwnRows.nil _ _ _ _ _, Own.nil _ _ _⟩, Parsed.no fun b hvb hsb => Agr.empty (i := i.toNat - 1) (by omega) (by rw [show i.toNat - 1 + 1 = i.toNat by omega]; exact bytes_ext hne) hvb hsb⟩, E⟩
      refine Sq.nil ?_
      refine Eq.next ?_
      refine Cq.els rfl ?_
      refine Cq.skip ?_
      refine Eq.next ?_
      refine Cq.seq ?_
      refine Cq.region ?_
      have hne1 := str_ne hne
      have hps := hxs13 _ (getD_mem (d := ByteArray.empty) (k := i.toNat) (by omega))
      have hcl : (((cuts 32 s).getD i.toNat ByteArray.empty).extract (1 : Int).toNat ((cuts 32 s).getD i.toNat ByteArray.empty).size).size ≤ 2000000 := Nat.le_trans (size_cut _) (by omega)
      refine Sq.move .plain rfl rfl ?_
      refine Sq.move .plain rfl rfl ?_
      refine Sq.idxStrs sl37 one9 (Own.row ho11) .plain rfl rfl rfl .plain rfl rfl (by omega) (by omega) ?_
      refine Sq.val .plain rfl rfl (Still.cutL und9 rfl rfl (by omega)) ?_
      have hd53 := hB4.lt
      have hd54 := hB7.lt
      refine Sq.call fn35 .plain rfl rfl (l3Parse2_c ((((cuts 32 s).getD i.toNat ByteArray.empty).extract (1 : Int).toNat ((cuts 32 s).getD i.toNat ByteArray.empty).size)) (by omega) _) ?_
      rintro _ w46 ⟨⟨r48, ok49, xs50, rfl, ho51, hrp52⟩, e47⟩
      have hs55 := Below.size E
      have hs56 := Below.size e47
      replace E := E.trans e47
      replace hB4 := hB4.ext e47
      replace ho11 := ho11.ext e47
      replace hB7 := hB7.ext e47
      replace hor := hor.ext e47
      replace hoa := hoa.ext e47
      refine Sq.move .plain rfl rfl ?_
      refine Sq.extract .plain rfl rfl rfl ?_
      refine Sq.extract .plain rfl rfl rfl ?_
      refine Sq.assign .plain rfl rfl ?_
      refine Sq.assign .plain rfl rfl ?_
      refine Sq.nil ?_
      refine Eq.next ?_
      refine Cq.seq ?_
      refine Cq.seq ?_
      refine Cq.region ?_
      refine Sq.move .plain rfl rfl ?_
      refine Sq.partB (fun hok2 => ?_) (fun hok2 => ?_)
      · refine Sq.notT .plain rfl rfl ?_
        refine Sq.nil ?_
        refine Eq.next ?_
        refine Cq.els rfl ?_
        refine Cq.skip ?_
        refine Eq.next ?_
        refine Cq.seq ?_
        refine Cq.region ?_
        refine Sq.fieldAddr fld26_1 .plain rfl rfl ?_
        refine Sq.loadB one23 .plain rfl rfl hB7 rfl ?_
        refine Sq.move .plain rfl rfl ?_
        obtain ⟨rs61, q62, q63, q64⟩ := OwnRows.open hor (by decide)
        have q64x := Ext.refl w46
        refine Sq.app1 sl23 q62 (by omega) (by rw [q63]; first | omega | (simp; omega)) .plain rfl rfl rfl rfl rfl rfl (Row.one (Own.row ho51)) (fun v57 w58 ho60 g59 _ => ?_)
        have hs65 := g59.size
        have ho60r := q64 _ xs50 _ _ _ (Ext.refl _) (Own.mono ho51 (by omega)) (by omega) ho60 g59
        replace E := E.owned q62 g59 (by omega)
        replace hB4 := hB4.owned q62 g59 (by decide)
        replace ho11 := ho11.owned q62 g59 (by decide)
        replace hB7 := hB7.owned q62 g59 (by decide)
        replace hoa := hoa.owned q62 g59 (by decide)
        refine Sq.fieldAddr fld26_1 .plain rfl rfl ?_
        refine Sq.store one23 .plain rfl rfl (Rows.one (OwnRows.rows ho60r)) hB7 (by simp) (fun w66 g67 hB68 => ?_)
        have hs69 := World.grownBy.size g67
        replace E := E.grown g67 (fun k hk => by injection hk with hk; subst hk; omega)
        replace hB4 := hB4.grown g67 (by intro h; injection h with h; omega)
        replace ho11 := ho11.stored g67 hB7 (by decide)
        replace hoa := hoa.stored g67 hB7 (by decide)
        replace ho60r := ho60r.stored g67 hB7 (by decide) (by decide)
        replace hB7 := hB68
        refine Sq.nil ?_
        refine Eq.next ?_
        obtain ⟨pS, hpS⟩ := Strs.at (Own.row ho11) (i := i) (by omega) (by omega)
        refine Cq.drawS 10 (fun w' => Blk w' b27 26 [Value.int .i64 n20, v57, acv] ∧ At w' 9 v8 i pS (.string ((cuts 32 s).getD i.toNat ByteArray.empty))) mixed (⟨hB7, hpS⟩) (fun w70 e71 hS => ?_)
        clear hS
        have hs72 := Below.size e71
        replace E := E.trans e71
        replace hB4 := hB4.ext e71
        replace ho11 := ho11.ext e71
        replace hB7 := hB7.ext e71
        replace hoa := hoa.ext e71
        replace ho60r := ho60r.ext e71
        replace hpS := hpS.ext e71
        refine Gq.st 0 rfl (by kernel_rfl) rfl .plain rfl (fun _ _ _ h => h) ⟨hB7, hpS⟩ (fun w' x => Still.fieldAddr fld26_2 rfl) ?_
        refine Gq.st 1 rfl (by kernel_rfl) rfl .plain rfl (fun _ _ _ h => h) ⟨hB7, hpS⟩ (fun w' x => Still.loadB one24 rfl x.1 rfl) ?_
        refine Gq.st 2 rfl (by kernel_rfl) rfl .plain rfl (fun _ _ _ h => h) ⟨hB7, hpS⟩ (fun w' x => Still.move rfl) ?_
        refine Gq.st 3 rfl (by kernel_rfl) rfl .plain rfl (fun _ _ _ h => h) ⟨hB7, hpS⟩ (fun w' x => Still.move rfl) ?_
        refine Gq.st 4 rfl (by kernel_rfl) rfl .plain rfl (fun _ _ _ h => h) ⟨hB7, hpS⟩ (fun w' x => Still.at' sl37 hpS rfl rfl) ?_
        refine Gq.st 5 rfl (by kernel_rfl) rfl .plain rfl (fun _ _ _ h => h) ⟨hB7, hpS⟩ (fun w' x => Still.loadA one9 rfl (x.2).1) ?_
        refine Gq.st 6 rfl (by kernel_rfl) rfl .plain rfl (fun _ _ _ h => h) ⟨hB7, hpS⟩ (fun w' x => Still.idxStr und9 rfl rfl (by omega) (str_at (by omega))) ?_
        refine Gq.st 7 rfl (by kernel_rfl) rfl .plain rfl (fun _ _ _ h => h) ⟨hB7, hpS⟩ (fun w' x => Still.eql rfl rfl) ?_
        refine Gq.one 8 rfl (by kernel_rfl) ?_
        refine Sq.lit sl24 rfl rfl .plain rfl rfl (one_cons rfl one_nil) (fun b73 w74 e75 hlo76 ho77 _ => ?_)
        replace ho77 := ho77 w70.heap.size (Nat.le_refl _)
        have hs79 := Below.size e75
        replace E := E.trans e75
        replace hB4 := hB4.ext e75
        replace ho11 := ho11.ext e75
        replace hB7 := hB7.ext e75
        replace hoa := hoa.ext e75
        replace ho60r := ho60r.ext e75
        replace hpS := hpS.ext e75
        refine Sq.nil ?_
        refine Eq.goes (fun _ => ⟨hB7, hpS⟩) ?_
        refine Gq.one 9 rfl (by kernel_rfl) ?_
        refine Sq.app sl24 hoa (by omega) (Own.row ho77) (one_cons rfl one_nil) (by first | omega | (simp; omega)) .plain rfl rfl rfl rfl (fun v80 w81 ho83 g82 => ?_)
        have hs84 := g82.size
        replace E := E.owned hoa g82 (by omega)
        replace hB4 := hB4.owned hoa g82 (by decide)
        replace ho11 := ho11.owned hoa g82 (by decide)
        replace hB7 := hB7.owned hoa g82 (by decide)
        replace ho60r := ho60r.owned hoa g82 (by decide) (by decide)
        replace hpS := hpS.owned hoa g82 (by decide)
        refine Sq.nil ?_
        refine Eq.goes (fun _ => ⟨hB7, hpS⟩) ?_
        refine Gq.one 10 rfl (by kernel_rfl) ?_
        refine Sq.fieldAddr fld26_2 .plain rfl rfl ?_
        refine Sq.nil ?_
        refine Eq.goes (fun h => absurd h (by decide)) ?_
        refine Gq.one 11 rfl (by kernel_rfl) ?_
        refine Sq.store one24 .plain rfl rfl (Row.one (Own.row ho83)) hB7 (by simp) (fun w85 g86 hB87 => ?_)
        have hs88 := World.grownBy.size g86
        replace E := E.grown g86 (fun k hk => by injection hk with hk; subst hk; omega)
        replace hB4 := hB4.grown g86 (by intro h; injection h with h; omega)
        replace ho11 := ho11.stored g86 hB7 (by decide)
        replace ho60r := ho60r.stored g86 hB7 (by decide) (by decide)
        replace ho83 := ho83.stored g86 hB7 (by decide)
        replace hB7 := hB87
        refine Sq.nil ?_
        refine Eq.goes (fun h => absurd h (by decide)) ?_
        refine Gq.done (by kernel_rfl) ?_
        refine Eq.end ?_
        refine Eq.next ?_
        refine Cq.region ?_
        refine Sq.move .plain rfl rfl ?_
        refine Sq.add .plain rfl rfl rfl (by omega) ?_
        refine Sq.assign .plain rfl rfl ?_
        refine Sq.nil ?_
        have e1 := toNat_succ (k := i) (by omega)
        refine Eq.round _ _ ⟨i + 1, _, _, _, _, rfl, by omega, hB7, OwnRows.now ho60r, Own.snocB ho83, ⟨by simp; omega, by simp; omega⟩, by rw [e1, show i.toNat + 1 - 1 = (i.toNat - 1) + 1 by omega]; exact hag.step (by omega) (by rw [show i.toNat - 1 + 1 = i.toNat by omega]) (hrp52.flag hok2) rfl, E, hB4, ho11, rfl⟩ (by omega) (.cons rfl (.cons rfl (.cons rfl (.cons rfl (.cons rfl (.nil))))))
      refine Sq.notF .plain rfl rfl ?_
      refine Sq.nil ?_
      refine Eq.next ?_
      refine Cq.thn rfl ?_
      refine Cq.seq ?_
      refine Cq.region ?_
      refine Sq.build st26 rfl rfl .plain rfl rfl one_nil rfl ?_
      refine Sq.storeAgg agg26 .plain rfl rfl (one_cons rfl (one_cons rfl (one_cons rfl one_nil))) hB4 rfl rfl (fun w89 g90 hB91 => ?_)
      have hs92 := World.grownBy.size g90
      replace E := E.grown g90 (fun k hk => by injection hk with hk; subst hk; omega)
      replace hB4 := hB91
      refine Sq.assign .plain rfl rfl ?_
      refine Sq.nil ?_
      refine Eq.next ?_
      refine Cq.ret ?_
      refine Eq.pastRet ?_
      refine Eq.outRet ?_
      refine Eq.pastRet ?_
      refine Eq.pastRet ?_
      refine Eq.outRet ?_
      refine Eq.pastRet ?_
      refine Eq.retCell2 rfl rfl agg26 hB4 rfl rfl ?_
      exact ⟨⟨_, _, zeroA, rfl, ⟨_, _, rfl, OwnRows.nil _ _ _ _ _, Own.nil _ _ _⟩, Parsed.no fun b hvb hsb => Agr.row (i := i.toNat - 1) (by omega) (by rw [show i.toNat - 1 + 1 = i.toNat by omega]) (hrp52.flag hok2) hvb hsb⟩, E⟩
    refine Sq.nil ?_
    refine Eq.next ?_
    refine Cq.els rfl ?_
    refine Cq.exit ?_
    refine Eq.past ?_
    refine Eq.past ?_
    refine Eq.hit ?_
    refine Eq.next ?_
    refine Cq.seq ?_
    refine Cq.seq ?_
    refine Cq.region ?_
    refine Sq.loadAgg agg26 .plain rfl rfl hB7 rfl ?_
    have hd96 := hB4.lt
    have hd97 := hB7.lt
    refine Sq.call fn7 .plain rfl rfl (fmtV_c _ (⟨n20, xss, ys⟩ : A) _ _ (OwnRows.rows hor) (Own.row hoa)) ?_
    rintro _ w94 ⟨rfl, e95⟩
    have hs98 := Below.size E
    have hs99 := Below.size e95
    replace E := E.trans e95
    replace hB4 := hB4.ext e95
    replace hB7 := hB7.ext e95
    replace hor := hor.ext e95
    replace hoa := hoa.ext e95
    refine Sq.move .plain rfl rfl ?_
    refine Sq.neqS .plain rfl rfl rfl ?_
    refine Sq.part (fun hfm => ?_) (fun hfm => ?_)
    · refine Sq.nil ?_
      refine Eq.next ?_
      refine Cq.thn rfl ?_
      refine Cq.seq ?_
      refine Cq.region ?_
      refine Sq.build st26 rfl rfl .plain rfl rfl one_nil rfl ?_
      refine Sq.storeAgg agg26 .plain rfl rfl (one_cons rfl (one_cons rfl (one_cons rfl one_nil))) hB4 rfl rfl (fun w100 g101 hB102 => ?_)
      have hs103 := World.grownBy.size g101
      replace E := E.grown g101 (fun k hk => by injection hk with hk; subst hk; omega)
      replace hB4 := hB102
      refine Sq.assign .plain rfl rfl ?_
      refine Sq.nil ?_
      refine Eq.next ?_
      refine Cq.ret ?_
      refine Eq.pastRet ?_
      refine Eq.retCell2 rfl rfl agg26 hB4 rfl rfl ?_
      exact ⟨⟨_, _, zeroA, rfl, ⟨_, _, rfl, OwnRows.nil _ _ _ _ _, Own.nil _ _ _⟩, Parsed.no fun b hvb hsb => Agr.last hag (by omega) (fun e => hfm (by rw [e])) hvb hsb⟩, E⟩
    refine Sq.nil ?_
    refine Eq.next ?_
    refine Cq.els rfl ?_
    refine Cq.skip ?_
    refine Eq.next ?_
    refine Cq.seq ?_
    refine Cq.region ?_
    refine Sq.loadAgg agg26 .plain rfl rfl hB7 rfl ?_
    refine Sq.storeAgg agg26 .plain rfl rfl (one_cons rfl (one_cons (Rows.one (OwnRows.rows hor)) (one_cons (Row.one (Own.row hoa)) one_nil))) hB4 rfl rfl (fun w104 g105 hB106 => ?_)
    have hs107 := World.grownBy.size g105
    replace E := E.grown g105 (fun k hk => by injection hk with hk; subst hk; omega)
    replace hor := hor.stored g105 hB4 (by decide) (by decide)
    replace hoa := hoa.stored g105 hB4 (by decide)
    replace hB4 := hB106
    refine Sq.assign .plain rfl rfl ?_
    refine Sq.nil ?_
    refine Eq.next ?_
    refine Cq.ret ?_
    refine Eq.retCell2 rfl rfl agg26 hB4 rfl rfl ?_
    exact ⟨⟨_, _, ⟨n20, xss, ys⟩, rfl, ⟨_, _, rfl, OwnRows.now hor, hoa⟩, Agr.done hag (by omega) (by omega) (hap23.1 hok) (bytes_ext (Decidable.not_not.1 hfm))⟩, E⟩
  refine Sq.notF .plain rfl rfl ?_
  refine Sq.nil ?_
  refine Eq.next ?_
  refine Cq.thn rfl ?_
  refine Cq.seq ?_
  refine Cq.region ?_
  refine Sq.build st26 rfl rfl .plain rfl rfl one_nil rfl ?_
  refine Sq.storeAgg agg26 .plain rfl rfl (one_cons rfl (one_cons rfl (one_cons rfl one_nil))) hB4 rfl rfl (fun w108 g109 hB110 => ?_)
  have hs111 := World.grownBy.size g109
  replace E := E.grown g109 (fun k hk => by injection hk with hk; subst hk; omega)
  replace hB4 := hB110
  refine Sq.assign .plain rfl rfl ?_
  refine Sq.nil ?_
  refine Eq.next ?_
  refine Cq.ret ?_
  refine Eq.pastRet ?_
  refine Eq.retCell2 rfl rfl agg26 hB4 rfl rfl ?_
  exact ⟨⟨_, _, zeroA, rfl, ⟨_, _, rfl, OwnRows.nil _ _ _ _ _, Own.nil _ _ _⟩, Parsed.no fun b hvb hsb => Agr.al (hap23.flag hok) hvb hsb⟩, E⟩
end Go.Proofs.YtnckpafknojdhaaGreatDoor
set_option linter.unusedSimpArgs false
set_option linter.unusedVariables false
namespace Go.Proofs.YtnckpafknojdhaaGreatDoor
open Go.RowKit
set_option maxRecDepth 100000 in
theorem l3Copy_c (w0 : World) (a : A) (nx ac : Value) (hnx : Rows w0 36 3 nx a.next) (hac : Bools w0 4 ac a.acc) (hf : Fit a) : Ret Tryz.prog 54 #[Value.agg #[Value.int .i64 a.al, nx, ac]] w0 (fun v w => OwnA w w0.heap.size v a ∧ Ext w0 w) := by
  have E := Ext.refl w0
  refine Ret.of (args := [Value.agg #[Value.int .i64 a.al, nx, ac]]) Tryz.func54 rfl rfl rfl ?_
  rintro _ rfl
  show Cq _ _ _ _ [(0, Value.agg #[Value.int .i64 a.al, nx, ac])] _
  refine Cq.seq ?_
  refine Cq.region ?_
  refine Sq.box .plain rfl rfl (fun b1 w2 e3 hB4 hlo5 => ?_)
  have hd6 := Nat.le_trans (Below.size E) hlo5
  have hs7 := Below.size e3
  replace E := E.trans e3
  refine Sq.alloc zero26 .plain rfl (fun b8 w9 e10 hB11 hlo12 => ?_)
  have hd13 := Nat.le_trans (Below.size E) hlo12
  have hd14 := Nat.lt_of_lt_of_le hB4.lt hlo12
  have hs15 := Below.size e10
  replace E := E.trans e10
  replace hB4 := hB4.ext e10
  refine Sq.nil ?_
  refine Eq.next ?_
  refine Cq.seq ?_
  refine Cq.cut (fun ls w => ∃ (b3 : Nat), ∃ (ac3 : Value), ls = [(1, Value.pointer (some ⟨b1, 0, none⟩)), (2, Value.pointer (some ⟨b8, 0, none⟩)), (3, Value.pointer (some ⟨b3, 0, none⟩))] ∧ Blk w b3 26 [Value.int .i64 a.al, Value.slice none 0 0, ac3] ∧ (w0.heap.size ≤ b3 ∧ b1 < b3 ∧ b8 < b3) ∧ Own w w0.heap.size 4 ac3 (a.acc.map Value.bool) ∧ Ext w0 w ∧ Blk w b1 26 [Value.int .i64 a.al, nx, ac] ∧ Blk w b8 26 [Value.int .i64 0, Value.slice none 0 0, Value.slice none 0 0]) ?_ ?_
  · refine Cq.draw 8 none mixed (fun w16 e17 => ?_)
    have hs18 := Below.size e17
    replace E := E.trans e17
    replace hB4 := hB4.ext e17
    replace hB11 := hB11.ext e17
    have hB4_w16 := hB4
    refine Gq.st 0 rfl (by kernel_rfl) rfl .plain rfl (fun _ _ _ h => h) (World.grownBy.refl w16 _) (fun w' x => Still.fieldAddr fld26_0 rfl) ?_
    refine Gq.st 1 rfl (by kernel_rfl) rfl .plain rfl (fun _ _ _ h => h) (World.grownBy.refl w16 _) (fun w' x => Still.loadB one3 rfl (hB4_w16.ext (Ext.of_grown x)) rfl) ?_
    refine Gq.st 3 rfl (by kernel_rfl) rfl .plain rfl (fun _ _ _ h => h) (World.grownBy.refl w16 _) (fun w' x => Still.fieldAddr fld26_2 rfl) ?_
    refine Gq.st 4 rfl (by kernel_rfl) rfl .plain rfl (fun _ _ _ h => h) (World.grownBy.refl w16 _) (fun w' x => Still.loadB one24 rfl (hB4_w16.ext (Ext.of_grown x)) rfl) ?_
    refine Gq.two 2 7 rfl rfl (by kernel_rfl) ?_ ?_
    · refine Sq.lit sl24 rfl rfl .plain rfl rfl one_nil (fun b19 w20 e21 hlo22 ho23 _ => ?_)
      replace ho23 := ho23 w16.heap.size (Nat.le_refl _)
      have hs25 := Below.size e21
      replace E := E.trans e21
      replace hB4 := hB4.ext e21
      replace hB11 := hB11.ext e21
      refine Sq.nil ?_
      refine Eq.goes (fun _ => (grown_trans (World.grownBy.refl w16 _) (Ext.to_grown e21 _))) ?_
      refine Gq.two 5 7 rfl rfl (by kernel_rfl) ?_ ?_
      · refine Sq.app sl24 ho23 (by omega) (hac.ext E) (one_bools _) (by rw [List.length_map]; simp only [List.length_nil, Nat.zero_add]; first | (have := hf.acc; omega) | omega) .plain rfl rfl rfl rfl (fun v26 w27 ho29 g28 => ?_)
        have hs30 := g28.size
        replace E := E.owned ho23 g28 (by omega)
        replace hB4 := hB4.owned ho23 g28 (by decide)
        replace hB11 := hB11.owned ho23 g28 (by decide)
        simp only [List.nil_append] at ho29
        refine Sq.nil ?_
        refine Eq.goes (fun _ => (grown_new (grown_trans (World.grownBy.refl w16 _) (Ext.to_grown e21 _)) ho23 g28 (by omega))) ?_
        refine Gq.st 6 rfl (by kernel_rfl) rfl .plain rfl (fun _ _ _ h => h) (grown_new (grown_trans (World.grownBy.refl w16 _) (Ext.to_grown e21 _)) ho23 g28 (by omega)) (fun w' x => Still.build st26 rfl rfl rfl (one_cons rfl (one_cons (Row.one (Own.row ho29)) one_nil)) rfl) ?_
        refine Gq.one 7 rfl (by kernel_rfl) ?_
        refine Sq.alloc zero26 .plain rfl (fun b31 w32 e33 hB34 hlo35 => ?_)
        have hd36 := Nat.le_trans (Below.size E) hlo35
        have hd37 := Nat.lt_of_lt_of_le hB4.lt hlo35
        have hd38 := Nat.lt_of_lt_of_le hB11.lt hlo35
        have hs39 := Below.size e33
        replace E := E.trans e33
        replace hB4 := hB4.ext e33
        replace hB11 := hB11.ext e33
        replace ho29 := ho29.ext e33
        refine Sq.nil ?_
        refine Eq.goes (fun _ => (grown_trans (grown_new (grown_trans (World.grownBy.refl w16 _) (Ext.to_grown e21 _)) ho23 g28 (by omega)) (Ext.to_grown e33 _))) ?_
        refine Gq.one 8 rfl (by kernel_rfl) ?_
        refine Sq.storeAgg agg26 .plain rfl rfl (one_cons rfl (one_cons rfl (one_cons (Row.one (Own.row ho29)) one_nil))) hB34 rfl rfl (fun w40 g41 hB42 => ?_)
        have hs43 := World.grownBy.size g41
        replace E := E.grown g41 (fun k hk => by injection hk with hk; subst hk; omega)
        replace hB4 := hB4.grown g41 (by intro h; injection h with h; omega)
        replace hB11 := hB11.grown g41 (by intro h; injection h with h; omega)
        replace ho29 := ho29.stored g41 hB34 (by decide)
        replace hB34 := hB42
        refine Sq.nil ?_
        refine Eq.goes (fun h => absurd h (by decide)) ?_
        refine Gq.done (by kernel_rfl) ?_
        refine Eq.left _ ⟨b31, v26, rfl, hB34, by omega, Own.mono ho29 (by omega), E, hB4, hB11⟩ (.cons rfl (.cons rfl (.cons rfl (.nil))))
      refine Sq.alloc zero26 .plain rfl (fun b44 w45 e46 hB47 hlo48 => ?_)
      have hd49 := Nat.le_trans (Below.size E) hlo48
      have hd50 := Nat.lt_of_lt_of_le hB4.lt hlo48
      have hd51 := Nat.lt_of_lt_of_le hB11.lt hlo48
      have hs52 := Below.size e46
      replace E := E.trans e46
      replace hB4 := hB4.ext e46
      replace hB11 := hB11.ext e46
      replace ho23 := ho23.ext e46
      refine Sq.nil ?_
      refine Eq.goes (fun _ => (grown_trans (grown_trans (World.grownBy.refl w16 _) (Ext.to_grown e21 _)) (Ext.to_grown e46 _))) ?_
      refine Gq.one 5 rfl (by kernel_rfl) ?_
      refine Sq.app sl24 ho23 (by omega) (hac.ext E) (one_bools _) (by rw [List.length_map]; simp only [List.length_nil, Nat.zero_add]; first | (have := hf.acc; omega) | omega) .plain rfl rfl rfl rfl (fun v53 w54 ho56 g55 => ?_)
      have hs57 := g55.size
      replace E := E.owned ho23 g55 (by omega)
      replace hB4 := hB4.owned ho23 g55 (by decide)
      replace hB11 := hB11.owned ho23 g55 (by decide)
      replace hB47 := hB47.owned ho23 g55 (by decide)
      simp only [List.nil_append] at ho56
      refine Sq.nil ?_
      refine Eq.goes (fun _ => (grown_new (grown_trans (grown_trans (World.grownBy.refl w16 _) (Ext.to_grown e21 _)) (Ext.to_grown e46 _)) ho23 g55 (by omega))) ?_
      refine Gq.st 6 rfl (by kernel_rfl) rfl .plain rfl (fun _ _ _ h => h) (grown_new (grown_trans (grown_trans (World.grownBy.refl w16 _) (Ext.to_grown e21 _)) (Ext.to_grown e46 _)) ho23 g55 (by omega)) (fun w' x => Still.build st26 rfl rfl rfl (one_cons rfl (one_cons (Row.one (Own.row ho56)) one_nil)) rfl) ?_
      refine Gq.one 8 rfl (by kernel_rfl) ?_
      refine Sq.storeAgg agg26 .plain rfl rfl (one_cons rfl (one_cons rfl (one_cons (Row.one (Own.row ho56)) one_nil))) hB47 rfl rfl (fun w58 g59 hB60 => ?_)
      have hs61 := World.grownBy.size g59
      replace E := E.grown g59 (fun k hk => by injection hk with hk; subst hk; omega)
      replace hB4 := hB4.grown g59 (by intro h; injection h with h; omega)
      replace hB11 := hB11.grown g59 (by intro h; injection h with h; omega)
      replace ho56 := ho56.stored g59 hB47 (by decide)
      replace hB47 := hB60
      refine Sq.nil ?_
      refine Eq.goes (fun h => absurd h (by decide)) ?_
      refine Gq.done (by kernel_rfl) ?_
      refine Eq.left _ ⟨b44, v53, rfl, hB47, by omega, Own.mono ho56 (by omega), E, hB4, hB11⟩ (.cons rfl (.cons rfl (.cons rfl (.nil))))
    refine Sq.alloc zero26 .plain rfl (fun b62 w63 e64 hB65 hlo66 => ?_)
    have hd67 := Nat.le_trans (Below.size E) hlo66
    have hd68 := Nat.lt_of_lt_of_le hB4.lt hlo66
    have hd69 := Nat.lt_of_lt_of_le hB11.lt hlo66
    have hs70 := Below.size e64
    replace E := E.trans e64
    replace hB4 := hB4.ext e64
    replace hB11 := hB11.ext e64
    refine Sq.nil ?_
    refine Eq.goes (fun _ => (grown_trans (World.grownBy.refl w16 _) (Ext.to_grown e64 _))) ?_
    refine Gq.one 2 rfl (by kernel_rfl) ?_
    refine Sq.lit sl24 rfl rfl .plain rfl rfl one_nil (fun b71 w72 e73 hlo74 ho75 _ => ?_)
    replace ho75 := ho75 w63.heap.size (Nat.le_refl _)
    have hs77 := Below.size e73
    replace E := E.trans e73
    replace hB4 := hB4.ext e73
    replace hB11 := hB11.ext e73
    replace hB65 := hB65.ext e73
    refine Sq.nil ?_
    refine Eq.goes (fun _ => (grown_trans (grown_trans (World.grownBy.refl w16 _) (Ext.to_grown e64 _)) (Ext.to_grown e73 _))) ?_
    refine Gq.one 5 rfl (by kernel_rfl) ?_
    refine Sq.app sl24 ho75 (by omega) (hac.ext E) (one_bools _) (by rw [List.length_map]; simp only [List.length_nil, Nat.zero_add]; first | (have := hf.acc; omega) | omega) .plain rfl rfl rfl rfl (fun v78 w79 ho81 g80 => ?_)
    have hs82 := g80.size
    replace E := E.owned ho75 g80 (by omega)
    replace hB4 := hB4.owned ho75 g80 (by decide)
    replace hB11 := hB11.owned ho75 g80 (by decide)
    replace hB65 := hB65.owned ho75 g80 (by decide)
    simp only [List.nil_append] at ho81
    refine Sq.nil ?_
    refine Eq.goes (fun _ => (grown_new (grown_trans (grown_trans (World.grownBy.refl w16 _) (Ext.to_grown e64 _)) (Ext.to_grown e73 _)) ho75 g80 (by omega))) ?_
    refine Gq.st 6 rfl (by kernel_rfl) rfl .plain rfl (fun _ _ _ h => h) (grown_new (grown_trans (grown_trans (World.grownBy.refl w16 _) (Ext.to_grown e64 _)) (Ext.to_grown e73 _)) ho75 g80 (by omega)) (fun w' x => Still.build st26 rfl rfl rfl (one_cons rfl (one_cons (Row.one (Own.row ho81)) one_nil)) rfl) ?_
    refine Gq.one 8 rfl (by kernel_rfl) ?_
    refine Sq.storeAgg agg26 .plain rfl rfl (one_cons rfl (one_cons rfl (one_cons (Row.one (Own.row ho81)) one_nil))) hB65 rfl rfl (fun w83 g84 hB85 => ?_)
    have hs86 := World.grownBy.size g84
    replace E := E.grown g84 (fun k hk => by injection hk with hk; subst hk; omega)
    replace hB4 := hB4.grown g84 (by intro h; injection h with h; omega)
    replace hB11 := hB11.grown g84 (by intro h; injection h with h; omega)
    replace ho81 := ho81.stored g84 hB65 (by decide)
    replace hB65 := hB85
    refine Sq.nil ?_
    refine Eq.goes (fun h => absurd h (by decide)) ?_
    refine Gq.done (by kernel_rfl) ?_
    refine Eq.left _ ⟨b62, v78, rfl, hB65, by omega, Own.mono ho81 (by omega), E, hB4, hB11⟩ (.cons rfl (.cons rfl (.cons rfl (.nil))))
  rintro ls wc1 ⟨b3, ac3, rfl, hB3, hb3, hoc, E, hB4, hB11⟩
  have hs87 := Below.size E
  refine Eq.next ?_
  refine Cq.seq ?_
  refine Cq.seq ?_
  refine Cq.region ?_
  refine Sq.assign .plain rfl rfl ?_
  refine Sq.nil ?_
  refine Eq.next ?_
  refine Cq.block ?_
  refine Cq.loop (fun nn w ls => ∃ (k : Int), ∃ (v : Value), ls = [(1, Value.pointer (some ⟨b1, 0, none⟩)), (2, Value.pointer (some ⟨b8, 0, none⟩)), (3, Value.pointer (some ⟨b3, 0, none⟩)), (4, Value.int .i64 k)] ∧ (0 ≤ k ∧ k ≤ a.next.length) ∧ Blk w b3 26 [Value.int .i64 a.al, v, ac3] ∧ OwnRows w w0.heap.size w.heap.size 36 3 v (a.next.take k.toNat) ∧ Ext w0 w ∧ Blk w b1 26 [Value.int .i64 a.al, nx, ac] ∧ Blk w b8 26 [Value.int .i64 0, Value.slice none 0 0, Value.slice none 0 0] ∧ Own w w0.heap.size 4 ac3 (a.acc.map Value.bool) ∧ nn = ((a.next.length : Int) - k).toNat) _ _ ⟨0, _, rfl, by omega, hB3, OwnRows.nil _ _ _ _ _, E, hB4, hB11, hoc, rfl⟩ (.cons rfl (.cons rfl (.cons rfl (.cons rfl (.nil))))) ?_
  rintro nn wl1 ls ⟨k, v, rfl, hk, hB3, hor, E, hB4, hB11, hoc, rfl⟩
  have hs88 := Below.size E
  have hn := hf.2.1
  have hro := Fit.row hf (k := k.toNat)
  refine Cq.seq ?_
  refine Cq.seq ?_
  refine Cq.region ?_
  refine Sq.move .plain rfl rfl ?_
  refine Sq.fieldAddr fld26_1 .plain rfl rfl ?_
  refine Sq.loadB one23 .plain rfl rfl hB4 rfl ?_
  refine Sq.lenRows (hnx.ext E) .plain rfl und23 rfl ?_
  refine Sq.lss .plain rfl rfl rfl ?_
  refine Sq.part (fun c89 => ?_) (fun c89 => ?_)
  · refine Sq.nil ?_
    refine Eq.next ?_
    refine Cq.thn rfl ?_
    refine Cq.skip ?_
    refine Eq.next ?_
    refine Cq.seq ?_
    refine Cq.block ?_
    refine Cq.draw 11 (Value.ownBlock v) mixed (fun w90 e91 => ?_)
    have hs92 := Below.size e91
    replace E := E.trans e91
    replace hB4 := hB4.ext e91
    replace hB11 := hB11.ext e91
    replace hoc := hoc.ext e91
    replace hB3 := hB3.ext e91
    replace hor := hor.ext e91
    have E_w90 := E
    have hB4_w90 := hB4
    have hB3_w90 := hB3
    have hor_w90 := hor
    obtain ⟨_, hor_w90q, _, _⟩ := OwnRows.open hor_w90 (by decide)
    refine Gq.st 0 rfl (by kernel_rfl) rfl .plain rfl (fun _ _ _ h => h) (World.grownBy.refl w90 _) (fun w' x => Still.fieldAddr fld26_1 rfl) ?_
    refine Gq.st 1 rfl (by kernel_rfl) rfl .plain rfl (fun _ _ _ h => h) (World.grownBy.refl w90 _) (fun w' x => Still.loadB one23 rfl (hB3_w90.owned hor_w90q x (by decide)) rfl) ?_
    refine Gq.st 3 rfl (by kernel_rfl) rfl .plain rfl (fun _ _ _ h => h) (World.grownBy.refl w90 _) (fun w' x => Still.fieldAddr fld26_1 rfl) ?_
    refine Gq.st 4 rfl (by kernel_rfl) rfl .plain rfl (fun _ _ _ h => h) (World.grownBy.refl w90 _) (fun w' x => Still.loadB one23 rfl (hB4_w90.owned hor_w90q x (by decide)) rfl) ?_
    refine Gq.st 5 rfl (by kernel_rfl) rfl .plain rfl (fun _ _ _ h => h) (World.grownBy.refl w90 _) (fun w' x => Still.move rfl) ?_
    obtain ⟨p93, r95, hp94_w90, hr96⟩ := Rows.at hnx (i := k) (by omega) (by omega)
    refine Gq.st 6 rfl (by kernel_rfl) rfl .plain rfl (fun _ _ _ h => h) (World.grownBy.refl w90 _) (fun w' x => Still.at' sl23 hp94_w90 rfl rfl) ?_
    refine Gq.st 7 rfl (by kernel_rfl) rfl .plain rfl (fun _ _ _ h => h) (World.grownBy.refl w90 _) (fun w' x => Still.loadA one36 rfl (hp94_w90.ext (E_w90.owned hor_w90q x (by omega))).1) ?_
    refine Gq.one 2 rfl (by kernel_rfl) ?_
    refine Sq.lit sl36 rfl rfl .plain rfl rfl one_nil (fun b97 w98 e99 hlo100 ho101 _ => ?_)
    replace ho101 := ho101 w90.heap.size (Nat.le_refl _)
    have hs103 := Below.size e99
    replace E := E.trans e99
    replace hB4 := hB4.ext e99
    replace hB11 := hB11.ext e99
    replace hoc := hoc.ext e99
    replace hB3 := hB3.ext e99
    replace hor := hor.ext e99
    refine Sq.nil ?_
    refine Eq.goes (fun _ => (grown_trans (World.grownBy.refl w90 _) (Ext.to_grown e99 _))) ?_
    refine Gq.one 8 rfl (by kernel_rfl) ?_
    refine Sq.app sl36 ho101 (by omega) (hr96.ext E) (one_ints _) (by rw [List.length_map]; simp only [List.length_nil, Nat.zero_add]; first | (have := hf.acc; omega) | omega) .plain rfl rfl rfl rfl (fun v104 w105 ho107 g106 => ?_)
    have hs108 := g106.size
    replace E := E.owned ho101 g106 (by omega)
    replace hB4 := hB4.owned ho101 g106 (by decide)
    replace hB11 := hB11.owned ho101 g106 (by decide)
    replace hoc := hoc.owned ho101 g106 (by decide)
    replace hB3 := hB3.owned ho101 g106 (by decide)
    replace hor := hor.apart ho101 g106 (by omega) (by decide)
    simp only [List.nil_append] at ho107
    refine Sq.nil ?_
    refine Eq.goes (fun _ => (grown_new (grown_trans (World.grownBy.refl w90 _) (Ext.to_grown e99 _)) ho101 g106 (by omega))) ?_
    refine Gq.one 9 rfl (by kernel_rfl) ?_
    refine Sq.lit sl23 rfl rfl .plain rfl rfl (one_cons (Row.one (Own.row ho107)) one_nil) (fun b109 w110 e111 hlo112 ho113 _ => ?_)
    replace ho113 := ho113 w105.heap.size (Nat.le_refl _)
    have hs115 := Below.size e111
    replace E := E.trans e111
    replace hB4 := hB4.ext e111
    replace hB11 := hB11.ext e111
    replace hoc := hoc.ext e111
    replace hB3 := hB3.ext e111
    replace hor := hor.ext e111
    replace ho107 := ho107.ext e111
    refine Sq.nil ?_
    refine Eq.goes (fun _ => (grown_trans (grown_new (grown_trans (World.grownBy.refl w90 _) (Ext.to_grown e99 _)) ho101 g106 (by omega)) (Ext.to_grown e111 _))) ?_
    refine Gq.one 10 rfl (by kernel_rfl) ?_
    obtain ⟨rs120, q121, q122, q123⟩ := OwnRows.open hor (by decide)
    have q123x := Ext.refl w110
    refine Sq.app sl23 q121 (by omega) (Own.row ho113) (one_cons (Row.one (Own.row ho107)) one_nil) (by rw [q122]; simp; omega) .plain rfl rfl rfl rfl (fun v116 w117 ho119 g118 => ?_)
    have hs124 := g118.size
    have ho119r := q123 _ (a.next.getD k.toNat []) _ _ _ (Ext.refl _) (Own.mono ho107 (by omega)) (by omega) ho119 g118
    replace E := E.owned q121 g118 (by omega)
    replace hB4 := hB4.owned q121 g118 (by decide)
    replace hB11 := hB11.owned q121 g118 (by decide)
    replace hoc := hoc.owned q121 g118 (by decide)
    replace hB3 := hB3.owned q121 g118 (by decide)
    refine Sq.nil ?_
    refine Eq.goes (fun _ => (grown_trans (grown_trans (grown_new (grown_trans (World.grownBy.refl w90 _) (Ext.to_grown e99 _)) ho101 g106 (by omega)) (Ext.to_grown e111 _)) g118)) ?_
    refine Gq.one 11 rfl (by kernel_rfl) ?_
    refine Sq.fieldAddr fld26_1 .plain rfl rfl ?_
    refine Sq.nil ?_
    refine Eq.goes (fun h => absurd h (by decide)) ?_
    refine Gq.one 12 rfl (by kernel_rfl) ?_
    refine Sq.store one23 .plain rfl rfl (Rows.one (OwnRows.rows ho119r)) hB3 (by simp) (fun w125 g126 hB127 => ?_)
    have hs128 := World.grownBy.size g126
    replace E := E.grown g126 (fun k hk => by injection hk with hk; subst hk; omega)
    replace hB4 := hB4.grown g126 (by intro h; injection h with h; omega)
    replace hB11 := hB11.grown g126 (by intro h; injection h with h; omega)
    replace hoc := hoc.stored g126 hB3 (by decide)
    replace ho119r := ho119r.stored g126 hB3 (by decide) (by decide)
    replace hB3 := hB127
    refine Sq.nil ?_
    refine Eq.goes (fun h => absurd h (by decide)) ?_
    refine Gq.done (by kernel_rfl) ?_
    refine Eq.end ?_
    refine Eq.next ?_
    refine Cq.region ?_
    refine Sq.move .plain rfl rfl ?_
    refine Sq.add .plain rfl rfl rfl (by omega) ?_
    refine Sq.assign .plain rfl rfl ?_
    refine Sq.nil ?_
    have e1 := toNat_succ hk.1
    refine Eq.round _ _ ⟨k + 1, _, rfl, by omega, hB3, by rw [e1, take_snoc [] (by omega)]; exact OwnRows.now ho119r, E, hB4, hB11, hoc, rfl⟩ (by omega) (.cons rfl (.cons rfl (.cons rfl (.cons rfl (.nil)))))
  refine Sq.nil ?_
  refine Eq.next ?_
  refine Cq.els rfl ?_
  refine Cq.exit ?_
  refine Eq.past ?_
  refine Eq.past ?_
  refine Eq.hit ?_
  refine Eq.next ?_
  refine Cq.seq ?_
  refine Cq.region ?_
  refine Sq.loadAgg agg26 .plain rfl rfl hB3 rfl ?_
  refine Sq.storeAgg agg26 .plain rfl rfl (one_cons rfl (one_cons (Rows.one (OwnRows.rows hor)) (one_cons (Row.one (Own.row hoc)) one_nil))) hB11 rfl rfl (fun w129 g130 hB131 => ?_)
  have hs132 := World.grownBy.size g130
  replace E := E.grown g130 (fun k hk => by injection hk with hk; subst hk; omega)
  replace hoc := hoc.stored g130 hB11 (by decide)
  replace hor := hor.stored g130 hB11 (by decide) (by decide)
  replace hB11 := hB131
  refine Sq.nil ?_
  refine Eq.next ?_
  refine Cq.ret ?_
  refine Eq.retCell rfl rfl agg26 hB11 rfl ?_
  have e : a.next.take k.toNat = a.next := List.take_of_length_le (by omega)
  rw [e] at hor
  exact ⟨⟨v, ac3, rfl, OwnRows.now hor, hoc⟩, E⟩
end Go.Proofs.YtnckpafknojdhaaGreatDoor
set_option linter.unusedSimpArgs false
set_option linter.unusedVariables false
namespace Go.Proofs.YtnckpafknojdhaaGreatDoor
open Go.RowKit
set_option maxRecDepth 100000 in
theorem pick_c (w0 : World) (rb : Nat) (bv : Value) (p : Int) (bs : List UInt8) (e0 : TypeId) (hR : Blk w0 rb 73 [bv, .int .i64 p]) (hb : Src w0 e0 bv bs rb) (hbl : bs.length ≤ 2000) (hp : 0 ≤ p ∧ p ≤ 1000000000) (n : Int) (hn : n ≤ 1000000000) : Ret Tryz.prog 31 #[Value.pointer (some ⟨rb, 0, none⟩), Value.int .i64 n] w0 (fun v w => (∃ p', (p ≤ p' ∧ p' ≤ p + 1) ∧ Blk w rb 73 [bv, .int .i64 p'] ∧ w0.grownBy w (some rb)) ∧ ∃ k, v = .int .i64 k ∧ 0 ≤ k ∧ (1 ≤ n → k < n) ∧ (n < 1 → k = 0)) := by
  have G := World.grownBy.refl w0 (some rb)
  have hlt := hR.lt
  refine Ret.of (args := [Value.pointer (some ⟨rb, 0, none⟩), Value.int .i64 n]) Tryz.func31 rfl rfl rfl ?_
  rintro _ rfl
  show Cq _ _ _ _ [(0, Value.pointer (some ⟨rb, 0, none⟩)), (1, Value.int .i64 n)] _
  refine Cq.seq ?_
  refine Cq.region ?_
  refine Sq.assign .plain rfl rfl ?_
  refine Sq.nil ?_
  refine Eq.next ?_
  refine Cq.seq ?_
  refine Cq.region ?_
  refine Sq.move .plain rfl rfl ?_
  refine Sq.move .plain rfl rfl ?_
  refine Sq.nilCheck .plain rfl rfl ?_
  refine Sq.fieldAddr fld73_1 .plain rfl rfl ?_
  refine Sq.loadB one3 .plain rfl rfl hR rfl ?_
  refine Sq.add .plain rfl rfl rfl (by omega) ?_
  refine Sq.nilCheck .plain rfl rfl ?_
  refine Sq.fieldAddr fld73_1 .plain rfl rfl ?_
  refine Sq.store one3 .plain rfl rfl rfl hR (by simp) (fun w1 g2 hB3 => ?_)
  have hs4 := World.grownBy.size g2
  replace G := grown_trans G g2
  replace hR := hB3
  refine Sq.nil ?_
  refine Eq.next ?_
  refine Cq.seq ?_
  refine Cq.seq ?_
  refine Cq.region ?_
  refine Sq.move .plain rfl rfl ?_
  refine Sq.lss .plain rfl rfl rfl ?_
  refine Sq.part (fun c5 => ?_) (fun c5 => ?_)
  · refine Sq.move .plain rfl rfl ?_
    refine Sq.off rfl rfl rfl rfl rfl rfl ?_
    refine Sq.off rfl rfl rfl rfl rfl rfl ?_
    refine Sq.off rfl rfl rfl rfl rfl rfl ?_
    refine Sq.off rfl rfl rfl rfl rfl rfl ?_
    refine Sq.off rfl rfl rfl rfl rfl rfl ?_
    refine Sq.off rfl rfl rfl rfl rfl rfl ?_
    refine Sq.pickT .plain rfl rfl rfl ?_
    refine Sq.nil ?_
    refine Eq.next ?_
    refine Cq.thn rfl ?_
    refine Cq.seq ?_
    refine Cq.region ?_
    refine Sq.assign .plain rfl rfl ?_
    refine Sq.nil ?_
    refine Eq.next ?_
    refine Cq.ret ?_
    refine Eq.pastRet ?_
    refine Eq.ret1 rfl rfl ?_
    exact ⟨⟨_, by omega, hR, G⟩, _, rfl, by first | omega | exact rem_ok _ (by omega)⟩
  refine Sq.move .plain rfl rfl ?_
  refine Sq.move (.met rfl rfl rfl) rfl rfl ?_
  refine Sq.nilCheck (.met rfl rfl rfl) rfl rfl ?_
  refine Sq.fieldAddr fld73_0 (.met rfl rfl rfl) rfl rfl ?_
  refine Sq.loadB one22 (.met rfl rfl rfl) rfl rfl hR rfl ?_
  refine Sq.lenBytes (hb.ext G) (.met rfl rfl rfl) rfl und22 rfl ?_
  refine Sq.eql (.met rfl rfl rfl) rfl rfl rfl ?_
  refine Sq.part (fun c6 => ?_) (fun c6 => ?_)
  · refine Sq.pickF .plain rfl rfl rfl ?_
    refine Sq.nil ?_
    refine Eq.next ?_
    refine Cq.thn rfl ?_
    refine Cq.seq ?_
    refine Cq.region ?_
    refine Sq.assign .plain rfl rfl ?_
    refine Sq.nil ?_
    refine Eq.next ?_
    refine Cq.ret ?_
    refine Eq.pastRet ?_
    refine Eq.ret1 rfl rfl ?_
    exact ⟨⟨_, by omega, hR, G⟩, _, rfl, by first | omega | exact rem_ok _ (by omega)⟩
  refine Sq.pickF .plain rfl rfl rfl ?_
  refine Sq.nil ?_
  refine Eq.next ?_
  refine Cq.els rfl ?_
  refine Cq.skip ?_
  refine Eq.next ?_
  refine Cq.seq ?_
  refine Cq.region ?_
  refine Sq.move .plain rfl rfl ?_
  refine Sq.nilCheck .plain rfl rfl ?_
  refine Sq.fieldAddr fld73_1 .plain rfl rfl ?_
  refine Sq.loadB one3 .plain rfl rfl hR rfl ?_
  refine Sq.sub .plain rfl rfl rfl (by omega) ?_
  refine Sq.assign .plain rfl rfl ?_
  refine Sq.nil ?_
  refine Eq.next ?_
  refine Cq.seq ?_
  refine Cq.seq ?_
  refine Cq.region ?_
  refine Sq.move .plain rfl rfl ?_
  refine Sq.move .plain rfl rfl ?_
  refine Sq.nilCheck .plain rfl rfl ?_
  refine Sq.fieldAddr fld73_0 .plain rfl rfl ?_
  refine Sq.loadB one22 .plain rfl rfl hR rfl ?_
  refine Sq.lenBytes (hb.ext G) .plain rfl und22 rfl ?_
  refine Sq.lss .plain rfl rfl rfl ?_
  refine Sq.part (fun c7 => ?_) (fun c7 => ?_)
  · refine Sq.nil ?_
    refine Eq.next ?_
    refine Cq.thn rfl ?_
    refine Cq.seq ?_
    refine Cq.region ?_
    refine Sq.move .plain rfl rfl ?_
    refine Sq.nilCheck .plain rfl rfl ?_
    refine Sq.fieldAddr fld73_0 .plain rfl rfl ?_
    refine Sq.loadB one22 .plain rfl rfl hR rfl ?_
    refine Sq.move .plain rfl rfl ?_
    refine Sq.idxBytes sl22 one5 (hb.ext G) .plain rfl rfl rfl .plain rfl rfl (by omega) (by omega) ?_
    refine Sq.conv conv5_3 .plain rfl rfl (u8_ok _) ?_
    refine Sq.move .plain rfl rfl ?_
    refine Sq.rem .plain rfl rfl rfl (by omega) ?_
    refine Sq.assign .plain rfl rfl ?_
    refine Sq.nil ?_
    refine Eq.next ?_
    refine Cq.ret ?_
    refine Eq.pastRet ?_
    refine Eq.ret1 rfl rfl ?_
    exact ⟨⟨_, by omega, hR, G⟩, _, rfl, by first | omega | exact rem_ok _ (by omega)⟩
  refine Sq.nil ?_
  refine Eq.next ?_
  refine Cq.els rfl ?_
  refine Cq.skip ?_
  refine Eq.next ?_
  refine Cq.seq ?_
  refine Cq.draw 45 none mixed (fun w8 e9 => ?_)
  have hs10 := Below.size e9
  replace hR := hR.ext e9
  replace G := grown_trans G (Ext.to_grown e9 _)
  have hR_w8 := hR
  have G_w8 := G
  refine Gq.st 0 rfl (by kernel_rfl) rfl .plain rfl (fun _ _ _ h => h) (World.grownBy.refl w8 _) (fun w' x => Still.move rfl) ?_
  refine Gq.st 1 rfl (by kernel_rfl) rfl .plain rfl (fun _ _ _ h => h) (World.grownBy.refl w8 _) (fun w' x => Still.nilCheck rfl) ?_
  refine Gq.st 2 rfl (by kernel_rfl) rfl .plain rfl (fun _ _ _ h => h) (World.grownBy.refl w8 _) (fun w' x => Still.fieldAddr fld73_0 rfl) ?_
  refine Gq.st 3 rfl (by kernel_rfl) rfl .plain rfl (fun _ _ _ h => h) (World.grownBy.refl w8 _) (fun w' x => Still.loadB one22 rfl (hR_w8.ext (Ext.of_grown x)) rfl) ?_
  refine Gq.st 4 rfl (by kernel_rfl) rfl .plain rfl (fun _ _ _ h => h) (World.grownBy.refl w8 _) (fun w' x => Still.move rfl) ?_
  refine Gq.st 5 rfl (by kernel_rfl) rfl .plain rfl (fun _ _ _ h => h) (World.grownBy.refl w8 _) (fun w' x => Still.move rfl) ?_
  refine Gq.st 6 rfl (by kernel_rfl) rfl .plain rfl (fun _ _ _ h => h) (World.grownBy.refl w8 _) (fun w' x => Still.nilCheck rfl) ?_
  refine Gq.st 7 rfl (by kernel_rfl) rfl .plain rfl (fun _ _ _ h => h) (World.grownBy.refl w8 _) (fun w' x => Still.fieldAddr fld73_0 rfl) ?_
  refine Gq.st 8 rfl (by kernel_rfl) rfl .plain rfl (fun _ _ _ h => h) (World.grownBy.refl w8 _) (fun w' x => Still.loadB one22 rfl (hR_w8.ext (Ext.of_grown x)) rfl) ?_
  refine Gq.st 9 rfl (by kernel_rfl) rfl .plain rfl (fun _ _ _ h => h) (World.grownBy.refl w8 _) (fun w' x => Still.lenBytes (hb.ext (grown_trans G_w8 (Ext.to_grown (Ext.of_grown x) _))) und22 rfl) ?_
  refine Gq.st 10 rfl (by kernel_rfl) rfl .plain rfl (fun _ _ _ h => h) (World.grownBy.refl w8 _) (fun w' x => Still.rem rfl rfl (by omega)) ?_
  obtain ⟨p11, hp12_w8⟩ := Bytes.at (hb.ext G_w8) (i := ((p + 1) - 1) % (List.length bs : Int)) ((rem_in (by omega) (by omega)).1) (rem_lt (by omega) (by omega))
  refine Gq.st 11 rfl (by kernel_rfl) rfl .plain rfl (fun _ _ _ h => h) (World.grownBy.refl w8 _) (fun w' x => Still.at' sl22 hp12_w8 rfl rfl) ?_
  refine Gq.st 12 rfl (by kernel_rfl) rfl .plain rfl (fun _ _ _ h => h) (World.grownBy.refl w8 _) (fun w' x => Still.loadA one5 rfl (hp12_w8.ext (Ext.of_grown x)).1) ?_
  refine Gq.st 13 rfl (by kernel_rfl) rfl .plain rfl (fun _ _ _ h => h) (World.grownBy.refl w8 _) (fun w' x => Still.conv conv5_3 rfl (u8_ok _)) ?_
  refine Gq.st 14 rfl (by kernel_rfl) rfl .plain rfl (fun _ _ _ h => h) (World.grownBy.refl w8 _) (fun w' x => Still.mul rfl rfl (u8_mul _ (by decide))) ?_
  refine Gq.st 15 rfl (by kernel_rfl) rfl .plain rfl (fun _ _ _ h => h) (World.grownBy.refl w8 _) (fun w' x => Still.move rfl) ?_
  refine Gq.st 16 rfl (by kernel_rfl) rfl .plain rfl (fun _ _ _ h => h) (World.grownBy.refl w8 _) (fun w' x => Still.nilCheck rfl) ?_
  refine Gq.st 17 rfl (by kernel_rfl) rfl .plain rfl (fun _ _ _ h => h) (World.grownBy.refl w8 _) (fun w' x => Still.fieldAddr fld73_0 rfl) ?_
  refine Gq.st 18 rfl (by kernel_rfl) rfl .plain rfl (fun _ _ _ h => h) (World.grownBy.refl w8 _) (fun w' x => Still.loadB one22 rfl (hR_w8.ext (Ext.of_grown x)) rfl) ?_
  refine Gq.st 19 rfl (by kernel_rfl) rfl .plain rfl (fun _ _ _ h => h) (World.grownBy.refl w8 _) (fun w' x => Still.move rfl) ?_
  refine Gq.st 20 rfl (by kernel_rfl) rfl .plain rfl (fun _ _ _ h => h) (World.grownBy.refl w8 _) (fun w' x => Still.mul rfl rfl (by omega)) ?_
  refine Gq.st 21 rfl (by kernel_rfl) rfl .plain rfl (fun _ _ _ h => h) (World.grownBy.refl w8 _) (fun w' x => Still.add rfl rfl (by omega)) ?_
  refine Gq.st 22 rfl (by kernel_rfl) rfl .plain rfl (fun _ _ _ h => h) (World.grownBy.refl w8 _) (fun w' x => Still.move rfl) ?_
  refine Gq.st 23 rfl (by kernel_rfl) rfl .plain rfl (fun _ _ _ h => h) (World.grownBy.refl w8 _) (fun w' x => Still.nilCheck rfl) ?_
  refine Gq.st 24 rfl (by kernel_rfl) rfl .plain rfl (fun _ _ _ h => h) (World.grownBy.refl w8 _) (fun w' x => Still.fieldAddr fld73_0 rfl) ?_
  refine Gq.st 25 rfl (by kernel_rfl) rfl .plain rfl (fun _ _ _ h => h) (World.grownBy.refl w8 _) (fun w' x => Still.loadB one22 rfl (hR_w8.ext (Ext.of_grown x)) rfl) ?_
  refine Gq.st 26 rfl (by kernel_rfl) rfl .plain rfl (fun _ _ _ h => h) (World.grownBy.refl w8 _) (fun w' x => Still.lenBytes (hb.ext (grown_trans G_w8 (Ext.to_grown (Ext.of_grown x) _))) und22 rfl) ?_
  refine Gq.st 27 rfl (by kernel_rfl) rfl .plain rfl (fun _ _ _ h => h) (World.grownBy.refl w8 _) (fun w' x => Still.rem rfl rfl (by omega)) ?_
  obtain ⟨p13, hp14_w8⟩ := Bytes.at (hb.ext G_w8) (i := ((((p + 1) - 1) * 7) + 3) % (List.length bs : Int)) ((rem_in (by omega) (by omega)).1) (rem_lt (by omega) (by omega))
  refine Gq.st 28 rfl (by kernel_rfl) rfl .plain rfl (fun _ _ _ h => h) (World.grownBy.refl w8 _) (fun w' x => Still.at' sl22 hp14_w8 rfl rfl) ?_
  refine Gq.st 29 rfl (by kernel_rfl) rfl .plain rfl (fun _ _ _ h => h) (World.grownBy.refl w8 _) (fun w' x => Still.loadA one5 rfl (hp14_w8.ext (Ext.of_grown x)).1) ?_
  refine Gq.st 30 rfl (by kernel_rfl) rfl .plain rfl (fun _ _ _ h => h) (World.grownBy.refl w8 _) (fun w' x => Still.conv conv5_3 rfl (u8_ok _)) ?_
  refine Gq.st 31 rfl (by kernel_rfl) rfl .plain rfl (fun _ _ _ h => h) (World.grownBy.refl w8 _) (fun w' x => Still.mul rfl rfl (u8_mul _ (by decide))) ?_
  refine Gq.st 32 rfl (by kernel_rfl) rfl .plain rfl (fun _ _ _ h => h) (World.grownBy.refl w8 _) (fun w' x => Still.add rfl rfl (u8_sum _ _)) ?_
  refine Gq.st 33 rfl (by kernel_rfl) rfl .plain rfl (fun _ _ _ h => h) (World.grownBy.refl w8 _) (fun w' x => Still.move rfl) ?_
  refine Gq.st 34 rfl (by kernel_rfl) rfl .plain rfl (fun _ _ _ h => h) (World.grownBy.refl w8 _) (fun w' x => Still.mul rfl rfl (by omega)) ?_
  refine Gq.st 35 rfl (by kernel_rfl) rfl .plain rfl (fun _ _ _ h => h) (World.grownBy.refl w8 _) (fun w' x => Still.add rfl rfl (u8_sum3 _ _ (by omega))) ?_
  refine Gq.st 36 rfl (by kernel_rfl) rfl .plain rfl (fun _ _ _ h => h) (World.grownBy.refl w8 _) (fun w' x => Still.move rfl) ?_
  refine Gq.st 37 rfl (by kernel_rfl) rfl .plain rfl (fun _ _ _ h => h) (World.grownBy.refl w8 _) (fun w' x => Still.move rfl) ?_
  refine Gq.st 38 rfl (by kernel_rfl) rfl .plain rfl (fun _ _ _ h => h) (World.grownBy.refl w8 _) (fun w' x => Still.nilCheck rfl) ?_
  refine Gq.st 39 rfl (by kernel_rfl) rfl .plain rfl (fun _ _ _ h => h) (World.grownBy.refl w8 _) (fun w' x => Still.fieldAddr fld73_0 rfl) ?_
  refine Gq.st 40 rfl (by kernel_rfl) rfl .plain rfl (fun _ _ _ h => h) (World.grownBy.refl w8 _) (fun w' x => Still.loadB one22 rfl (hR_w8.ext (Ext.of_grown x)) rfl) ?_
  refine Gq.st 41 rfl (by kernel_rfl) rfl .plain rfl (fun _ _ _ h => h) (World.grownBy.refl w8 _) (fun w' x => Still.lenBytes (hb.ext (grown_trans G_w8 (Ext.to_grown (Ext.of_grown x) _))) und22 rfl) ?_
  refine Gq.st 42 rfl (by kernel_rfl) rfl .plain rfl (fun _ _ _ h => h) (World.grownBy.refl w8 _) (fun w' x => Still.quo rfl rfl (by omega)) ?_
  refine Gq.st 43 rfl (by kernel_rfl) rfl .plain rfl (fun _ _ _ h => h) (World.grownBy.refl w8 _) (fun w' x => Still.mul rfl rfl (div_mul (by omega))) ?_
  refine Gq.st 44 rfl (by kernel_rfl) rfl .plain rfl (fun _ _ _ h => h) (World.grownBy.refl w8 _) (fun w' x => Still.add rfl rfl (u8_sum4 _ _ _ (by omega))) ?_
  refine Gq.one 45 rfl (by kernel_rfl) ?_
  refine Sq.assign .plain rfl rfl ?_
  refine Sq.nil ?_
  refine Eq.goes (fun h => absurd h (by decide)) ?_
  refine Gq.done (by kernel_rfl) ?_
  refine Eq.next ?_
  refine Cq.seq ?_
  refine Cq.region ?_
  refine Sq.move .plain rfl rfl ?_
  refine Sq.move .plain rfl rfl ?_
  refine Sq.quo .plain rfl rfl rfl (u8_quo _ _ _ (by omega)) ?_
  refine Sq.xor .plain rfl rfl rfl (u8_xor _ _ _ (by omega)) ?_
  refine Sq.assign .plain rfl rfl ?_
  refine Sq.nil ?_
  refine Eq.next ?_
  refine Cq.seq ?_
  refine Cq.region ?_
  refine Sq.move .plain rfl rfl ?_
  refine Sq.move .plain rfl rfl ?_
  refine Sq.rem .plain rfl rfl rfl (⟨Int.natCast_nonneg _, by omega⟩) ?_
  refine Sq.assign .plain rfl rfl ?_
  refine Sq.nil ?_
  refine Eq.next ?_
  refine Cq.ret ?_
  refine Eq.ret1 rfl rfl ?_
  exact ⟨⟨_, by omega, hR, G⟩, _, rfl, by first | omega | exact rem_ok _ (by omega)⟩
set_option maxRecDepth 100000 in
theorem num_c (w0 : World) (rb : Nat) (bv : Value) (p : Int) (bs : List UInt8) (e0 : TypeId) (hR : Blk w0 rb 73 [bv, .int .i64 p]) (hb : Src w0 e0 bv bs rb) (hbl : bs.length ≤ 2000) (hp : 0 ≤ p ∧ p ≤ 900000000) (lv : Value) (xs : List Int) (hx : Ints w0 3 lv xs) (hl : 1 ≤ xs.length ∧ xs.length ≤ 1000) : Ret Tryz.prog 52 #[Value.pointer (some ⟨rb, 0, none⟩), lv] w0 (fun v w => (∃ p', (p ≤ p' ∧ p' ≤ p + 1) ∧ Blk w rb 73 [bv, .int .i64 p'] ∧ w0.grownBy w (some rb)) ∧ ∃ k, v = .int .i64 k ∧ k ∈ xs) := by
  have G := World.grownBy.refl w0 (some rb)
  have hlt := hR.lt
  refine Ret.of (args := [Value.pointer (some ⟨rb, 0, none⟩), lv]) Tryz.func52 rfl rfl rfl ?_
  rintro _ rfl
  show Cq _ _ _ _ [(0, Value.pointer (some ⟨rb, 0, none⟩)), (1, lv)] _
  refine Cq.seq ?_
  refine Cq.region ?_
  refine Sq.assign .plain rfl rfl ?_
  refine Sq.nil ?_
  refine Eq.next ?_
  refine Cq.seq ?_
  refine Cq.region ?_
  refine Sq.move .plain rfl rfl ?_
  refine Sq.move .plain rfl rfl ?_
  refine Sq.move .plain rfl rfl ?_
  refine Sq.lenInts hx .plain rfl und36 rfl ?_
  refine Sq.call fn31 .plain rfl rfl (pick_c _ _ _ _ _ _ hR (hb.go G) hbl (by omega) (List.length xs : Int) (by omega)) ?_
  rintro _ w2 ⟨⟨p3, hp6, hB5, g4⟩, ⟨k7, rfl, hk8⟩⟩
  have hs9 := World.grownBy.size g4
  have hs10 := World.grownBy.size G
  have hs11 := World.grownBy.size g4
  replace G := grown_trans G g4
  replace hx := hx.stored g4 hR (by decide)
  replace hR := hB5
  refine Sq.idxInts sl36 one3 hx .plain rfl rfl rfl .plain rfl rfl (by omega) (by omega) ?_
  refine Sq.assign .plain rfl rfl ?_
  refine Sq.nil ?_
  refine Eq.next ?_
  refine Cq.ret ?_
  refine Eq.ret1 rfl rfl ?_
  exact ⟨⟨_, by omega, hR, G⟩, _, rfl, getD_mem (by omega)⟩
set_option maxRecDepth 100000 in
theorem of_c (w0 : World) (rb : Nat) (bv : Value) (p : Int) (bs : List UInt8) (e0 : TypeId) (hR : Blk w0 rb 73 [bv, .int .i64 p]) (hb : Src w0 e0 bv bs rb) (hbl : bs.length ≤ 2000) (hp : 0 ≤ p ∧ p ≤ 900000000) (lv : Value) (xs : List ByteArray) (hx : Strs w0 9 lv xs) (hl : 1 ≤ xs.length ∧ xs.length ≤ 1000) : Ret Tryz.prog 32 #[Value.pointer (some ⟨rb, 0, none⟩), lv] w0 (fun v w => (∃ p', (p ≤ p' ∧ p' ≤ p + 1) ∧ Blk w rb 73 [bv, .int .i64 p'] ∧ w0.grownBy w (some rb)) ∧ ∃ k, v = .string k ∧ k ∈ xs) := by
  have G := World.grownBy.refl w0 (some rb)
  have hlt := hR.lt
  refine Ret.of (args := [Value.pointer (some ⟨rb, 0, none⟩), lv]) Tryz.func32 rfl rfl rfl ?_
  rintro _ rfl
  show Cq _ _ _ _ [(0, Value.pointer (some ⟨rb, 0, none⟩)), (1, lv)] _
  refine Cq.seq ?_
  refine Cq.region ?_
  refine Sq.assign .plain rfl rfl ?_
  refine Sq.nil ?_
  refine Eq.next ?_
  refine Cq.seq ?_
  refine Cq.region ?_
  refine Sq.move .plain rfl rfl ?_
  refine Sq.move .plain rfl rfl ?_
  refine Sq.move .plain rfl rfl ?_
  refine Sq.lenStrs hx .plain rfl und37 rfl ?_
  refine Sq.call fn31 .plain rfl rfl (pick_c _ _ _ _ _ _ hR (hb.go G) hbl (by omega) (List.length xs : Int) (by omega)) ?_
  rintro _ w2 ⟨⟨p3, hp6, hB5, g4⟩, ⟨k7, rfl, hk8⟩⟩
  have hs9 := World.grownBy.size g4
  have hs10 := World.grownBy.size G
  have hs11 := World.grownBy.size g4
  replace G := grown_trans G g4
  replace hx := hx.stored g4 hR (by decide)
  replace hR := hB5
  refine Sq.idxStrs sl37 one9 hx .plain rfl rfl rfl .plain rfl rfl (by omega) (by omega) ?_
  refine Sq.assign .plain rfl rfl ?_
  refine Sq.nil ?_
  refine Eq.next ?_
  refine Cq.ret ?_
  refine Eq.ret1 rfl rfl ?_
  exact ⟨⟨_, by omega, hR, G⟩, _, rfl, getD_mem (by omega)⟩
end Go.Proofs.YtnckpafknojdhaaGreatDoor
set_option linter.unusedSimpArgs false
set_option linter.unusedVariables false
namespace Go.Proofs.YtnckpafknojdhaaGreatDoor
open Go.RowKit
set_option maxRecDepth 100000 in
theorem l3Random_c (w0 : World) (rb : Nat) (bv : Value) (p : Int) (bs : List UInt8) (e0 : TypeId) (hR : Blk w0 rb 73 [bv, .int .i64 p]) (hb : Src w0 e0 bv bs rb) (hbl : bs.length ≤ 2000) (hp : 0 ≤ p ∧ p ≤ 800000000) (al n : Int) (hal : 0 ≤ al ∧ al ≤ 63) (hn : 1 ≤ n ∧ n ≤ 12) : Ret Tryz.prog 66 #[Value.pointer (some ⟨rb, 0, none⟩), Value.int .i64 al, Value.int .i64 n] w0 (fun v w => (∃ p', (p ≤ p' ∧ p' ≤ p + 100) ∧ Blk w rb 73 [bv, .int .i64 p'] ∧ w0.grownBy w (some rb)) ∧ ∃ a, OwnA w w0.heap.size v a ∧ validA a = true ∧ a.al = al ∧ (a.next.length : Int) = n) := by
  have G := World.grownBy.refl w0 (some rb)
  have hlt := hR.lt
  refine Ret.of (args := [Value.pointer (some ⟨rb, 0, none⟩), Value.int .i64 al, Value.int .i64 n]) Tryz.func66 rfl rfl rfl ?_
  rintro _ rfl
  show Cq _ _ _ _ [(0, Value.pointer (some ⟨rb, 0, none⟩)), (1, Value.int .i64 al), (2, Value.int .i64 n)] _
  refine Cq.seq ?_
  refine Cq.region ?_
  refine Sq.alloc zero26 .plain rfl (fun b1 w2 e3 hB4 hlo5 => ?_)
  have hd6 := Nat.lt_of_lt_of_le hR.lt hlo5
  have hd7 := Nat.le_trans (World.grownBy.size G) hlo5
  have hs8 := Below.size e3
  replace hR := hR.ext e3
  replace G := grown_trans G (Ext.to_grown e3 _)
  refine Sq.nil ?_
  refine Eq.next ?_
  refine Cq.seq ?_
  refine Cq.region ?_
  refine Sq.move .plain rfl rfl ?_
  refine Sq.build st26 rfl rfl .plain rfl rfl (one_cons rfl one_nil) rfl ?_
  refine Sq.alloc zero26 .plain rfl (fun b9 w10 e11 hB12 hlo13 => ?_)
  have hd14 := Nat.lt_of_lt_of_le hR.lt hlo13
  have hd15 := Nat.le_trans (World.grownBy.size G) hlo13
  have hd16 := Nat.lt_of_lt_of_le hB4.lt hlo13
  have hs17 := Below.size e11
  replace hR := hR.ext e11
  replace G := grown_trans G (Ext.to_grown e11 _)
  replace hB4 := hB4.ext e11
  refine Sq.storeAgg agg26 .plain rfl rfl (one_cons rfl (one_cons rfl (one_cons rfl one_nil))) hB12 rfl rfl (fun w18 g19 hB20 => ?_)
  have hs21 := World.grownBy.size g19
  replace hR := hR.grown g19 (by intro h; injection h with h; omega)
  replace G := grown_far G g19 (fun k hk => by injection hk with hk; subst hk; omega)
  replace hB4 := hB4.grown g19 (by intro h; injection h with h; omega)
  replace hB12 := hB20
  refine Sq.nil ?_
  refine Eq.next ?_
  refine Cq.seq ?_
  refine Cq.region ?_
  refine Sq.move .plain rfl rfl ?_
  have hd26 := hR.lt
  have hd27 := hB4.lt
  have hd28 := hB12.lt
  refine Sq.call fn23 .plain rfl rfl (l1Letters_c al (by omega) _) ?_
  rintro v22 w23 ⟨hl25, e24⟩
  have hs29 := World.grownBy.size G
  have hs30 := Below.size e24
  replace hR := hR.ext e24
  replace G := grown_trans G (Ext.to_grown e24 _)
  replace hB4 := hB4.ext e24
  replace hB12 := hB12.ext e24
  refine Sq.lenInts (Own.row hl25) .plain rfl und36 rfl ?_
  refine Sq.assign .plain rfl rfl ?_
  refine Sq.nil ?_
  refine Eq.next ?_
  refine Cq.seq ?_
  refine Cq.seq ?_
  refine Cq.region ?_
  refine Sq.assign .plain rfl rfl ?_
  refine Sq.nil ?_
  refine Eq.next ?_
  refine Cq.block ?_
  refine Cq.loop (fun nn w ls => ∃ (i : Int), ∃ (p1 : Int), ∃ (nxv : Value), ∃ (acv : Value), ∃ (xss : List (List Int)), ∃ (ys : List Bool), ls = [(0, Value.pointer (some ⟨rb, 0, none⟩)), (2, Value.int .i64 n), (6, Value.pointer (some ⟨b1, 0, none⟩)), (7, Value.pointer (some ⟨b9, 0, none⟩)), (8, Value.int .i64 ((List.length (letters al) : Int))), (9, Value.int .i64 i)] ∧ (0 ≤ i ∧ i ≤ n) ∧ (p ≤ p1 ∧ p1 ≤ p + 7 * i) ∧ Blk w rb 73 [bv, Value.int .i64 p1] ∧ Blk w b9 26 [Value.int .i64 al, nxv, acv] ∧ OwnRows w w0.heap.size w.heap.size 36 3 nxv xss ∧ Own w w0.heap.size 4 acv (ys.map Value.bool) ∧ ((xss.length : Int) = i ∧ (ys.length : Int) = i ∧ ∀ row ∈ xss, rowOk (letters al).length n row = true) ∧ World.grownBy w0 w (some rb) ∧ Blk w b1 26 [Value.int .i64 0, Value.slice none 0 0, Value.slice none 0 0] ∧ nn = (n - i).toNat) _ _ ⟨0, p, _, _, [], [], rfl, by omega, by omega, hR, hB12, OwnRows.nil _ _ _ _ _, Own.nil _ _ _, by simp, G, hB4, rfl⟩ (.cons rfl (.cons rfl (.cons rfl (.cons rfl (.cons rfl (.cons rfl (.nil))))))) ?_
  rintro nn wl1 ls ⟨i, p1, nxv, acv, xss, ys, rfl, hi, hp1, hR, hB7, hor, hoa, hxl, G, hB4, rfl⟩
  have hs31 := World.grownBy.size G
  have hl6 := letters_len6 al
  refine Cq.seq ?_
  refine Cq.seq ?_
  refine Cq.region ?_
  refine Sq.move .plain rfl rfl ?_
  refine Sq.move .plain rfl rfl ?_
  refine Sq.lss .plain rfl rfl rfl ?_
  refine Sq.part (fun c32 => ?_) (fun c32 => ?_)
  · refine Sq.nil ?_
    refine Eq.next ?_
    refine Cq.thn rfl ?_
    refine Cq.skip ?_
    refine Eq.next ?_
    refine Cq.seq ?_
    refine Cq.block ?_
    refine Cq.seq ?_
    refine Cq.region ?_
    refine Sq.lit sl36 rfl rfl .plain rfl rfl one_nil (fun b33 w34 e35 hlo36 ho37 _ => ?_)
    replace ho37 := ho37 wl1.heap.size (Nat.le_refl _)
    have hs39 := Below.size e35
    replace G := grown_trans G (Ext.to_grown e35 _)
    replace hB4 := hB4.ext e35
    replace hR := hR.ext e35
    replace hB7 := hB7.ext e35
    replace hor := hor.ext e35
    replace hoa := hoa.ext e35
    refine Sq.assign .plain rfl rfl ?_
    refine Sq.nil ?_
    refine Eq.next ?_
    refine Cq.seq ?_
    refine Cq.seq ?_
    refine Cq.region ?_
    refine Sq.assign .plain rfl rfl ?_
    refine Sq.nil ?_
    refine Eq.next ?_
    refine Cq.block ?_
    refine Cq.loop (fun nn w ls => ∃ (j : Int), ∃ (p2 : Int), ∃ (rv : Value), ∃ (row : List Int), ls = [(0, Value.pointer (some ⟨rb, 0, none⟩)), (2, Value.int .i64 n), (6, Value.pointer (some ⟨b1, 0, none⟩)), (7, Value.pointer (some ⟨b9, 0, none⟩)), (8, Value.int .i64 ((List.length (letters al) : Int))), (9, Value.int .i64 i), (10, rv), (11, Value.int .i64 j)] ∧ (0 ≤ j ∧ j ≤ (letters al).length) ∧ wl1.heap.size ≤ w.heap.size ∧ (p1 ≤ p2 ∧ p2 ≤ p1 + j) ∧ Blk w rb 73 [bv, Value.int .i64 p2] ∧ Own w wl1.heap.size 3 rv (row.map (Value.int .i64)) ∧ ((row.length : Int) = j ∧ ∀ q ∈ row, 0 ≤ q ∧ q < n) ∧ World.grownBy w0 w (some rb) ∧ Blk w b1 26 [Value.int .i64 0, Value.slice none 0 0, Value.slice none 0 0] ∧ Blk w b9 26 [Value.int .i64 al, nxv, acv] ∧ OwnRows w w0.heap.size wl1.heap.size 36 3 nxv xss ∧ Own w w0.heap.size 4 acv (ys.map Value.bool) ∧ nn = ((letters al).length - j).toNat) _ _ ⟨0, p1, _, [], rfl, by omega, by omega, by omega, hR, ho37, by simp, G, hB4, hB7, hor, hoa, rfl⟩ (.cons rfl (.cons rfl (.cons rfl (.cons rfl (.cons rfl (.cons rfl (.cons rfl (.cons rfl (.nil))))))))) ?_
    rintro nn wl2 ls ⟨j, p2, rv, row, rfl, hj, hsz, hp2, hR, hro, hrl, G, hB4, hB7, hor, hoa, rfl⟩
    have hs40 := World.grownBy.size G
    refine Cq.seq ?_
    refine Cq.seq ?_
    refine Cq.region ?_
    refine Sq.move .plain rfl rfl ?_
    refine Sq.move .plain rfl rfl ?_
    refine Sq.lss .plain rfl rfl rfl ?_
    refine Sq.part (fun c41 => ?_) (fun c41 => ?_)
    · refine Sq.nil ?_
      refine Eq.next ?_
      refine Cq.thn rfl ?_
      refine Cq.skip ?_
      refine Eq.next ?_
      refine Cq.seq ?_
      refine Cq.block ?_
      refine Cq.region ?_
      refine Sq.move .plain rfl rfl ?_
      refine Sq.move .plain rfl rfl ?_
      refine Sq.move .plain rfl rfl ?_
      refine Sq.call fn31 .plain rfl rfl (pick_c _ _ _ _ _ _ hR (hb.go G) hbl (by omega) n (by omega)) ?_
      rintro _ w43 ⟨⟨p44, hp47, hB46, g45⟩, ⟨k48, rfl, hk49⟩⟩
      have hs50 := World.grownBy.size g45
      have hs51 := World.grownBy.size G
      have hs52 := World.grownBy.size g45
      replace G := grown_trans G g45
      replace hB4 := hB4.grown g45 (by intro h; injection h with h; omega)
      replace hB7 := hB7.grown g45 (by intro h; injection h with h; omega)
      replace hor := hor.stored g45 hR (by decide) (by decide)
      replace hoa := hoa.stored g45 hR (by decide)
      replace hro := hro.stored g45 hR (by decide)
      replace hR := hB46
      refine Sq.app1 sl36 hro (by omega) (by first | omega | (simp; omega)) .plain rfl rfl rfl rfl rfl rfl rfl (fun v53 w54 ho56 g55 _ => ?_)
      have hs57 := g55.size
      replace G := grown_new G hro g55 (by omega)
      replace hB4 := hB4.owned hro g55 (by decide)
      replace hB7 := hB7.owned hro g55 (by decide)
      replace hor := hor.apart hro g55 (by omega) (by decide)
      replace hoa := hoa.owned hro g55 (by decide)
      replace hR := hR.owned hro g55 (by decide)
      refine Sq.assign .plain rfl rfl ?_
      refine Sq.nil ?_
      refine Eq.end ?_
      refine Eq.next ?_
      refine Cq.region ?_
      refine Sq.move .plain rfl rfl ?_
      refine Sq.add .plain rfl rfl rfl (by omega) ?_
      refine Sq.assign .plain rfl rfl ?_
      refine Sq.nil ?_
      refine Eq.round _ _ ⟨j + 1, _, _, _, rfl, by omega, by omega, by omega, hR, Own.snocI ho56, ⟨by simp; omega, all_app hrl.2 (by omega)⟩, G, hB4, hB7, hor, hoa, rfl⟩ (by omega) (.cons rfl (.cons rfl (.cons rfl (.cons rfl (.cons rfl (.cons rfl (.cons rfl (.cons rfl (.nil)))))))))
    refine Sq.nil ?_
    refine Eq.next ?_
    refine Cq.els rfl ?_
    refine Cq.exit ?_
    refine Eq.past ?_
    refine Eq.past ?_
    refine Eq.hit ?_
    refine Eq.next ?_
    refine Cq.seq ?_
    refine Cq.region ?_
    refine Sq.fieldAddr fld26_1 .plain rfl rfl ?_
    refine Sq.loadB one23 .plain rfl rfl hB7 rfl ?_
    refine Sq.move .plain rfl rfl ?_
    obtain ⟨rs62, q63, q64, q65⟩ := OwnRows.open hor (by decide)
    have q65x := Ext.refl wl2
    refine Sq.app1 sl23 q63 (by omega) (by rw [q64]; first | omega | (simp; omega)) .plain rfl rfl rfl rfl rfl rfl (Row.one (Own.row hro)) (fun v58 w59 ho61 g60 _ => ?_)
    have hs66 := g60.size
    have ho61r := q65 _ row _ _ _ (Ext.refl _) (Own.mono hro (by omega)) (by omega) ho61 g60
    replace G := grown_new G q63 g60 (by omega)
    replace hB4 := hB4.owned q63 g60 (by decide)
    replace hB7 := hB7.owned q63 g60 (by decide)
    replace hoa := hoa.owned q63 g60 (by decide)
    replace hR := hR.owned q63 g60 (by decide)
    refine Sq.fieldAddr fld26_1 .plain rfl rfl ?_
    refine Sq.store one23 .plain rfl rfl (Rows.one (OwnRows.rows ho61r)) hB7 (by simp) (fun w67 g68 hB69 => ?_)
    have hs70 := World.grownBy.size g68
    replace G := grown_far G g68 (fun k hk => by injection hk with hk; subst hk; omega)
    replace hB4 := hB4.grown g68 (by intro h; injection h with h; omega)
    replace hoa := hoa.stored g68 hB7 (by decide)
    replace hR := hR.grown g68 (by intro h; injection h with h; omega)
    replace ho61r := ho61r.stored g68 hB7 (by decide) (by decide)
    replace hB7 := hB69
    refine Sq.nil ?_
    refine Eq.next ?_
    refine Cq.drawS 7 (fun w' => Blk w' b9 26 [Value.int .i64 al, v58, acv]) mixed (hB7) (fun w71 e72 hS => ?_)
    clear hS
    have hs73 := Below.size e72
    replace G := grown_trans G (Ext.to_grown e72 _)
    replace hB4 := hB4.ext e72
    replace hB7 := hB7.ext e72
    replace hoa := hoa.ext e72
    replace hR := hR.ext e72
    replace ho61r := ho61r.ext e72
    refine Gq.st 0 rfl (by kernel_rfl) rfl .plain rfl (fun _ _ _ h => h) hB7 (fun w' x => Still.fieldAddr fld26_2 rfl) ?_
    refine Gq.st 1 rfl (by kernel_rfl) rfl .plain rfl (fun _ _ _ h => h) hB7 (fun w' x => Still.loadB one24 rfl x rfl) ?_
    refine Gq.st 2 rfl (by kernel_rfl) rfl .plain rfl (fun _ _ _ h => h) hB7 (fun w' x => Still.move rfl) ?_
    refine Gq.one 3 rfl (by kernel_rfl) ?_
    refine Sq.call fn31 .plain rfl rfl (pick_c _ _ _ _ _ _ hR (hb.go G) hbl (by omega) 3 (by omega)) ?_
    rintro _ w75 ⟨⟨p76, hp79, hB78, g77⟩, ⟨k80, rfl, hk81⟩⟩
    have hs82 := World.grownBy.size g77
    have hs83 := World.grownBy.size G
    have hs84 := World.grownBy.size g77
    replace G := grown_trans G g77
    replace hB4 := hB4.grown g77 (by intro h; injection h with h; omega)
    replace hB7 := hB7.grown g77 (by intro h; injection h with h; omega)
    replace hoa := hoa.stored g77 hR (by decide)
    replace ho61r := ho61r.stored g77 hR (by decide) (by decide)
    replace hR := hB78
    refine Sq.nil ?_
    refine Eq.goes (fun _ => hB7) ?_
    refine Gq.st 4 rfl (by kernel_rfl) rfl .plain rfl (fun _ _ _ h => h) hB7 (fun w' x => Still.gtr rfl rfl) ?_
    refine Gq.one 5 rfl (by kernel_rfl) ?_
    refine Sq.lit sl24 rfl rfl .plain rfl rfl (one_cons rfl one_nil) (fun b85 w86 e87 hlo88 ho89 _ => ?_)
    replace ho89 := ho89 w75.heap.size (Nat.le_refl _)
    have hs91 := Below.size e87
    replace G := grown_trans G (Ext.to_grown e87 _)
    replace hB4 := hB4.ext e87
    replace hB7 := hB7.ext e87
    replace hoa := hoa.ext e87
    replace hR := hR.ext e87
    replace ho61r := ho61r.ext e87
    refine Sq.nil ?_
    refine Eq.goes (fun _ => hB7) ?_
    refine Gq.one 6 rfl (by kernel_rfl) ?_
    refine Sq.app sl24 hoa (by omega) (Own.row ho89) (one_cons rfl one_nil) (by first | omega | (simp; omega)) .plain rfl rfl rfl rfl (fun v92 w93 ho95 g94 => ?_)
    have hs96 := g94.size
    replace G := grown_new G hoa g94 (by omega)
    replace hB4 := hB4.owned hoa g94 (by decide)
    replace hB7 := hB7.owned hoa g94 (by decide)
    replace hR := hR.owned hoa g94 (by decide)
    replace ho61r := ho61r.owned hoa g94 (by decide) (by decide)
    refine Sq.nil ?_
    refine Eq.goes (fun _ => hB7) ?_
    refine Gq.one 7 rfl (by kernel_rfl) ?_
    refine Sq.fieldAddr fld26_2 .plain rfl rfl ?_
    refine Sq.nil ?_
    refine Eq.goes (fun h => absurd h (by decide)) ?_
    refine Gq.one 8 rfl (by kernel_rfl) ?_
    refine Sq.store one24 .plain rfl rfl (Row.one (Own.row ho95)) hB7 (by simp) (fun w97 g98 hB99 => ?_)
    have hs100 := World.grownBy.size g98
    replace G := grown_far G g98 (fun k hk => by injection hk with hk; subst hk; omega)
    replace hB4 := hB4.grown g98 (by intro h; injection h with h; omega)
    replace hR := hR.grown g98 (by intro h; injection h with h; omega)
    replace ho61r := ho61r.stored g98 hB7 (by decide) (by decide)
    replace ho95 := ho95.stored g98 hB7 (by decide)
    replace hB7 := hB99
    refine Sq.nil ?_
    refine Eq.goes (fun h => absurd h (by decide)) ?_
    refine Gq.done (by kernel_rfl) ?_
    refine Eq.end ?_
    refine Eq.next ?_
    refine Cq.region ?_
    refine Sq.move .plain rfl rfl ?_
    refine Sq.add .plain rfl rfl rfl (by omega) ?_
    refine Sq.assign .plain rfl rfl ?_
    refine Sq.nil ?_
    refine Eq.round _ _ ⟨i + 1, _, _, _, _, _, rfl, by omega, by omega, hR, hB7, OwnRows.now ho61r, Own.snocB ho95, ⟨by simp; omega, by simp; omega, rows_snoc hxl.2.2 (rowOk_mk (by omega) hrl.2)⟩, G, hB4, rfl⟩ (by omega) (.cons rfl (.cons rfl (.cons rfl (.cons rfl (.cons rfl (.cons rfl (.nil)))))))
  refine Sq.nil ?_
  refine Eq.next ?_
  refine Cq.els rfl ?_
  refine Cq.exit ?_
  refine Eq.past ?_
  refine Eq.past ?_
  refine Eq.hit ?_
  refine Eq.next ?_
  refine Cq.seq ?_
  refine Cq.region ?_
  refine Sq.loadAgg agg26 .plain rfl rfl hB7 rfl ?_
  refine Sq.storeAgg agg26 .plain rfl rfl (one_cons rfl (one_cons (Rows.one (OwnRows.rows hor)) (one_cons (Row.one (Own.row hoa)) one_nil))) hB4 rfl rfl (fun w101 g102 hB103 => ?_)
  have hs104 := World.grownBy.size g102
  replace G := grown_far G g102 (fun k hk => by injection hk with hk; subst hk; omega)
  replace hR := hR.grown g102 (by intro h; injection h with h; omega)
  replace hor := hor.stored g102 hB4 (by decide) (by decide)
  replace hoa := hoa.stored g102 hB4 (by decide)
  replace hB4 := hB103
  refine Sq.nil ?_
  refine Eq.next ?_
  refine Cq.ret ?_
  refine Eq.retCell rfl rfl agg26 hB4 rfl ?_
  exact ⟨⟨_, by omega, hR, G⟩, ⟨al, xss, ys⟩, ⟨_, _, rfl, OwnRows.now hor, hoa⟩, validA_mk hal (by show 1 ≤ xss.length ∧ xss.length ≤ 12; omega) (by show ys.length = xss.length; omega) (by intro row hr; have e : ((⟨al, xss, ys⟩ : A).next.length : Int) = n := (by show (xss.length : Int) = n; omega); rw [e]; exact hxl.2.2 row hr), rfl, by show (xss.length : Int) = n; omega⟩
set_option maxRecDepth 100000 in
theorem l3Safe_c (w0 : World) (rb : Nat) (bv : Value) (p : Int) (bs : List UInt8) (e0 : TypeId) (hR : Blk w0 rb 73 [bv, .int .i64 p]) (hb : Src w0 e0 bv bs rb) (hbl : bs.length ≤ 2000) (hp : 0 ≤ p ∧ p ≤ 700000000) (al n : Int) (hal : 0 ≤ al ∧ al ≤ 63) (hn : 1 ≤ n ∧ n ≤ 12) : Ret Tryz.prog 65 #[Value.pointer (some ⟨rb, 0, none⟩), Value.int .i64 al, Value.int .i64 n] w0 (fun v w => (∃ p', (p ≤ p' ∧ p' ≤ p + 100) ∧ Blk w rb 73 [bv, .int .i64 p'] ∧ w0.grownBy w (some rb)) ∧ ∃ a, OwnA w w0.heap.size v a ∧ validA a = true ∧ a.al = al ∧ (a.next.length : Int) = n) := by
  have G := World.grownBy.refl w0 (some rb)
  have hlt := hR.lt
  refine Ret.of (args := [Value.pointer (some ⟨rb, 0, none⟩), Value.int .i64 al, Value.int .i64 n]) Tryz.func65 rfl rfl rfl ?_
  rintro _ rfl
  show Cq _ _ _ _ [(0, Value.pointer (some ⟨rb, 0, none⟩)), (1, Value.int .i64 al), (2, Value.int .i64 n)] _
  refine Cq.seq ?_
  refine Cq.region ?_
  refine Sq.alloc zero26 .plain rfl (fun b1 w2 e3 hB4 hlo5 => ?_)
  have hd6 := Nat.lt_of_lt_of_le hR.lt hlo5
  have hd7 := Nat.le_trans (World.grownBy.size G) hlo5
  have hs8 := Below.size e3
  replace hR := hR.ext e3
  replace G := grown_trans G (Ext.to_grown e3 _)
  refine Sq.nil ?_
  refine Eq.next ?_
  refine Cq.seq ?_
  refine Cq.region ?_
  refine Sq.move .plain rfl rfl ?_
  refine Sq.move .plain rfl rfl ?_
  refine Sq.move .plain rfl rfl ?_
  refine Sq.call fn66 .plain rfl rfl (l3Random_c _ _ _ _ _ _ hR (hb.go G) hbl (by omega) al n (by omega) (by omega)) ?_
  rintro _ w10 ⟨⟨p11, hp14, hB13, g12⟩, ⟨a15, ⟨nx16, ac17, rfl, hn18, ha19⟩, hv20, hal21, hlen22⟩⟩
  have hs23 := World.grownBy.size g12
  have hs24 := World.grownBy.size G
  have hs25 := World.grownBy.size g12
  replace G := grown_trans G g12
  replace hB4 := hB4.grown g12 (by intro h; injection h with h; omega)
  replace hR := hB13
  refine Sq.alloc zero26 .plain rfl (fun b26 w27 e28 hB29 hlo30 => ?_)
  have hd31 := Nat.lt_of_lt_of_le hR.lt hlo30
  have hd32 := Nat.le_trans (World.grownBy.size G) hlo30
  have hd33 := Nat.lt_of_lt_of_le hB4.lt hlo30
  have hs34 := Below.size e28
  replace hR := hR.ext e28
  replace G := grown_trans G (Ext.to_grown e28 _)
  replace hB4 := hB4.ext e28
  replace hn18 := hn18.ext e28
  replace ha19 := ha19.ext e28
  refine Sq.storeAgg agg26 .plain rfl rfl (one_cons rfl (one_cons (Rows.one (OwnRows.rows hn18)) (one_cons (Row.one (Own.row ha19)) one_nil))) hB29 rfl rfl (fun w35 g36 hB37 => ?_)
  have hs38 := World.grownBy.size g36
  replace hR := hR.grown g36 (by intro h; injection h with h; omega)
  replace G := grown_far G g36 (fun k hk => by injection hk with hk; subst hk; omega)
  replace hB4 := hB4.grown g36 (by intro h; injection h with h; omega)
  replace hn18 := hn18.stored g36 hB29 (by decide) (by decide)
  replace ha19 := ha19.stored g36 hB29 (by decide)
  replace hB29 := hB37
  refine Sq.nil ?_
  refine Eq.next ?_
  refine Cq.seq ?_
  refine Cq.seq ?_
  refine Cq.region ?_
  refine Sq.assign .plain rfl rfl ?_
  refine Sq.nil ?_
  refine Eq.next ?_
  refine Cq.block ?_
  have hvs := validA_spec.1 hv20
  refine Cq.loop (fun nn w ls => ∃ (i : Int), ∃ (ys : List Bool), ls = [(0, Value.pointer (some ⟨rb, 0, none⟩)), (2, Value.int .i64 n), (6, Value.pointer (some ⟨b1, 0, none⟩)), (7, Value.pointer (some ⟨b26, 0, none⟩)), (8, Value.int .i64 i)] ∧ (0 ≤ i ∧ i ≤ n) ∧ ((ys.length : Int) = n) ∧ Own w w0.heap.size 4 ac17 (ys.map Value.bool) ∧ World.grownBy w0 w (some rb) ∧ Blk w rb 73 [bv, Value.int .i64 p11] ∧ Blk w b1 26 [Value.int .i64 0, Value.slice none 0 0, Value.slice none 0 0] ∧ Blk w b26 26 [Value.int .i64 a15.al, nx16, ac17] ∧ OwnRows w w2.heap.size w10.heap.size 36 3 nx16 a15.next ∧ nn = (n - i).toNat) _ _ ⟨0, _, rfl, by omega, by have := hvs.2.2.1; omega, Own.mono ha19 (by omega), G, hR, hB4, hB29, hn18, rfl⟩ (.cons rfl (.cons rfl (.cons rfl (.cons rfl (.cons rfl (.nil)))))) ?_
  rintro nn wl1 ls ⟨i, ys, rfl, hi, hyl, ha19, G, hR, hB4, hB29, hn18, rfl⟩
  have hs39 := World.grownBy.size G
  refine Cq.seq ?_
  refine Cq.seq ?_
  refine Cq.region ?_
  refine Sq.move .plain rfl rfl ?_
  refine Sq.move .plain rfl rfl ?_
  refine Sq.lss .plain rfl rfl rfl ?_
  refine Sq.part (fun c40 => ?_) (fun c40 => ?_)
  · refine Sq.nil ?_
    refine Eq.next ?_
    refine Cq.thn rfl ?_
    refine Cq.skip ?_
    refine Eq.next ?_
    refine Cq.seq ?_
    refine Cq.block ?_
    refine Cq.region ?_
    refine Sq.fieldAddr fld26_2 .plain rfl rfl ?_
    refine Sq.loadB one24 .plain rfl rfl hB29 rfl ?_
    refine Sq.move .plain rfl rfl ?_
    refine Sq.move .plain rfl rfl ?_
    refine Sq.move .plain rfl rfl ?_
    refine Sq.sub .plain rfl rfl rfl (by omega) ?_
    refine Sq.lss .plain rfl rfl rfl ?_
    obtain ⟨p41, hp42o⟩ := Own.at ha19 (i := i) (by omega) (by first | (simp only [List.length_map]; omega) | (simp; omega))
    refine Sq.atO sl24 hp42o .plain rfl rfl rfl ?_
    refine Sq.storeO one4 ha19 hp42o .plain rfl rfl rfl (fun w43 g44 ho45 => ?_)
    have hs46 := World.grownBy.size g44
    replace G := grown_new G ha19 g44 (by omega)
    replace hR := hR.owned ha19 g44 (by decide)
    replace hB4 := hB4.owned ha19 g44 (by decide)
    replace hB29 := hB29.owned ha19 g44 (by decide)
    replace hn18 := hn18.owned ha19 g44 (by decide) (by decide)
    replace ha19 := ho45
    refine Sq.nil ?_
    refine Eq.end ?_
    refine Eq.next ?_
    refine Cq.region ?_
    refine Sq.move .plain rfl rfl ?_
    refine Sq.add .plain rfl rfl rfl (by omega) ?_
    refine Sq.assign .plain rfl rfl ?_
    refine Sq.nil ?_
    refine Eq.round _ _ ⟨i + 1, _, rfl, by omega, by rw [List.length_set]; omega, Own.setB ha19, G, hR, hB4, hB29, hn18, rfl⟩ (by omega) (.cons rfl (.cons rfl (.cons rfl (.cons rfl (.cons rfl (.nil))))))
  refine Sq.nil ?_
  refine Eq.next ?_
  refine Cq.els rfl ?_
  refine Cq.exit ?_
  refine Eq.past ?_
  refine Eq.past ?_
  refine Eq.hit ?_
  refine Eq.next ?_
  refine Cq.seq ?_
  refine Cq.seq ?_
  refine Cq.region ?_
  refine Sq.assign .plain rfl rfl ?_
  refine Sq.nil ?_
  refine Eq.next ?_
  refine Cq.block ?_
  have hrows := validA_rows hv20
  refine Cq.loop (fun nn w ls => ∃ (j : Int), ∃ (xss : List (List Int)), ls = [(0, Value.pointer (some ⟨rb, 0, none⟩)), (2, Value.int .i64 n), (6, Value.pointer (some ⟨b1, 0, none⟩)), (7, Value.pointer (some ⟨b26, 0, none⟩)), (9, Value.int .i64 j)] ∧ (0 ≤ j) ∧ ((xss.length : Int) = n ∧ ∀ row ∈ xss, rowOk (letters al).length n row = true) ∧ OwnRows w w0.heap.size w.heap.size 36 3 nx16 xss ∧ World.grownBy w0 w (some rb) ∧ Blk w rb 73 [bv, Value.int .i64 p11] ∧ Blk w b1 26 [Value.int .i64 0, Value.slice none 0 0, Value.slice none 0 0] ∧ Blk w b26 26 [Value.int .i64 a15.al, nx16, ac17] ∧ Own w w0.heap.size 4 ac17 (ys.map Value.bool) ∧ nn = (((xss.getD (n - 1).toNat []).length : Int) - j).toNat) _ _ ⟨0, _, rfl, by omega, ⟨by omega, by rw [← hal21, ← hlen22]; exact hrows⟩, OwnRows.mono (OwnRows.now hn18) (by omega), G, hR, hB4, hB29, ha19, rfl⟩ (.cons rfl (.cons rfl (.cons rfl (.cons rfl (.cons rfl (.nil)))))) ?_
  rintro nn wl2 ls ⟨j, xss, rfl, hj, hxl, hn18, G, hR, hB4, hB29, ha19, rfl⟩
  have hs47 := World.grownBy.size G
  have hrk := rowOk_at hxl.2 (k := (n - 1).toNat) (by omega)
  have hl6 := letters_len6 al
  refine Cq.seq ?_
  refine Cq.seq ?_
  refine Cq.region ?_
  refine Sq.move .plain rfl rfl ?_
  refine Sq.fieldAddr fld26_1 .plain rfl rfl ?_
  refine Sq.loadB one23 .plain rfl rfl hB29 rfl ?_
  refine Sq.move .plain rfl rfl ?_
  refine Sq.sub .plain rfl rfl rfl (by omega) ?_
  refine Sq.idxRows sl23 one36 (OwnRows.rows hn18) .plain rfl rfl rfl .plain rfl rfl (by omega) (by omega) (fun r48 hr49 => ?_)
  refine Sq.lenInts hr49 .plain rfl und36 rfl ?_
  refine Sq.lss .plain rfl rfl rfl ?_
  refine Sq.part (fun c50 => ?_) (fun c50 => ?_)
  · refine Sq.nil ?_
    refine Eq.next ?_
    refine Cq.thn rfl ?_
    refine Cq.skip ?_
    refine Eq.next ?_
    refine Cq.seq ?_
    refine Cq.block ?_
    refine Cq.region ?_
    refine Sq.fieldAddr fld26_1 .plain rfl rfl ?_
    refine Sq.loadB one23 .plain rfl rfl hB29 rfl ?_
    refine Sq.move .plain rfl rfl ?_
    refine Sq.sub .plain rfl rfl rfl (by omega) ?_
    obtain ⟨p51, r53, hp52, _⟩ := Rows.at (OwnRows.rows hn18) (i := n - 1) (by omega) (by omega)
    have hr54 := (OwnRows.rowAt hn18 hp52).1
    refine Sq.val .plain rfl rfl (Still.at' sl23 hp52 rfl rfl) ?_
    refine Sq.val .plain rfl rfl (Still.loadA one36 rfl hp52.1) ?_
    refine Sq.move .plain rfl rfl ?_
    refine Sq.move .plain rfl rfl ?_
    refine Sq.sub .plain rfl rfl rfl (by omega) ?_
    obtain ⟨p55, hp56o⟩ := Own.at hr54 (i := j) (by omega) (by first | (simp only [List.length_map]; omega) | (simp; omega))
    refine Sq.atO sl36 hp56o .plain rfl rfl rfl ?_
    refine Sq.storeO one3 hr54 hp56o .plain rfl rfl rfl (fun w57 g58 ho59 => ?_)
    have hs60 := World.grownBy.size g58
    rw [← List.map_set] at ho59
    replace hn18 := (OwnRows.set hn18 (by decide) hp52 ho59 g58).1
    replace G := grown_new G hr54 g58 (by omega)
    replace hR := hR.owned hr54 g58 (by decide)
    replace hB4 := hB4.owned hr54 g58 (by decide)
    replace hB29 := hB29.owned hr54 g58 (by decide)
    replace ha19 := ha19.owned hr54 g58 (by decide)
    refine Sq.nil ?_
    refine Eq.end ?_
    refine Eq.next ?_
    refine Cq.region ?_
    refine Sq.move .plain rfl rfl ?_
    refine Sq.add .plain rfl rfl rfl (by omega) ?_
    refine Sq.assign .plain rfl rfl ?_
    refine Sq.nil ?_
    refine Eq.round _ _ ⟨j + 1, _, rfl, by omega, ⟨by rw [List.length_set]; exact hxl.1, rows_set hxl.2 (rowOk_set hrk (by omega))⟩, OwnRows.now hn18, G, hR, hB4, hB29, ha19, rfl⟩ (by rw [getD_set_self (by omega), List.length_set]; omega) (.cons rfl (.cons rfl (.cons rfl (.cons rfl (.cons rfl (.nil))))))
  refine Sq.nil ?_
  refine Eq.next ?_
  refine Cq.els rfl ?_
  refine Cq.exit ?_
  refine Eq.past ?_
  refine Eq.past ?_
  refine Eq.hit ?_
  refine Eq.next ?_
  refine Cq.seq ?_
  refine Cq.region ?_
  refine Sq.loadAgg agg26 .plain rfl rfl hB29 rfl ?_
  refine Sq.storeAgg agg26 .plain rfl rfl (one_cons rfl (one_cons (Rows.one (OwnRows.rows hn18)) (one_cons (Row.one (Own.row ha19)) one_nil))) hB4 rfl rfl (fun w61 g62 hB63 => ?_)
  have hs64 := World.grownBy.size g62
  replace G := grown_far G g62 (fun k hk => by injection hk with hk; subst hk; omega)
  replace hR := hR.grown g62 (by intro h; injection h with h; omega)
  replace ha19 := ha19.stored g62 hB4 (by decide)
  replace hn18 := hn18.stored g62 hB4 (by decide) (by decide)
  replace hB4 := hB63
  refine Sq.nil ?_
  refine Eq.next ?_
  refine Cq.ret ?_
  refine Eq.retCell rfl rfl agg26 hB4 rfl ?_
  exact ⟨⟨_, by omega, hR, G⟩, ⟨al, xss, ys⟩, ⟨_, _, by first | rfl | (simp only [hal21]), OwnRows.now (OwnRows.mono hn18 (by omega)), Own.mono ha19 (by omega)⟩, validA_mk hal (by show 1 ≤ xss.length ∧ xss.length ≤ 12; omega) (by show ys.length = xss.length; omega) (by intro row hr; have e : ((⟨al, xss, ys⟩ : A).next.length : Int) = n := (by show (xss.length : Int) = n; omega); rw [e]; exact hxl.2 row hr), rfl, by show (xss.length : Int) = n; omega⟩
set_option maxRecDepth 100000 in
theorem l3Over_c (w0 : World) (rb : Nat) (bv : Value) (p : Int) (bs : List UInt8) (e0 : TypeId) (hR : Blk w0 rb 73 [bv, .int .i64 p]) (hb : Src w0 e0 bv bs rb) (hbl : bs.length ≤ 2000) (hp : 0 ≤ p ∧ p ≤ 600000000) (al : Int) (hal : 0 ≤ al ∧ al ≤ 63) : Ret Tryz.prog 51 #[Value.pointer (some ⟨rb, 0, none⟩), Value.int .i64 al] w0 (fun v w => (∃ p', (p ≤ p' ∧ p' ≤ p + 200) ∧ Blk w rb 73 [bv, .int .i64 p'] ∧ w0.grownBy w (some rb)) ∧ ∃ a, OwnA w w0.heap.size v a ∧ validA a = true ∧ a.al = al) := by
  have G := World.grownBy.refl w0 (some rb)
  have hlt := hR.lt
  refine Ret.of (args := [Value.pointer (some ⟨rb, 0, none⟩), Value.int .i64 al]) Tryz.func51 rfl rfl rfl ?_
  rintro _ rfl
  show Cq _ _ _ _ [(0, Value.pointer (some ⟨rb, 0, none⟩)), (1, Value.int .i64 al)] _
  refine Cq.seq ?_
  refine Cq.region ?_
  refine Sq.alloc zero26 .plain rfl (fun b1 w2 e3 hB4 hlo5 => ?_)
  have hd6 := Nat.lt_of_lt_of_le hR.lt hlo5
  have hd7 := Nat.le_trans (World.grownBy.size G) hlo5
  have hs8 := Below.size e3
  replace hR := hR.ext e3
  replace G := grown_trans G (Ext.to_grown e3 _)
  refine Sq.nil ?_
  refine Eq.next ?_
  refine Cq.seq ?_
  refine Cq.seq ?_
  refine Cq.region ?_
  refine Sq.move .plain rfl rfl ?_
  refine Sq.call fn31 .plain rfl rfl (pick_c _ _ _ _ _ _ hR (hb.go G) hbl (by omega) 2 (by omega)) ?_
  rintro _ w10 ⟨⟨p11, hp14, hB13, g12⟩, ⟨k15, rfl, hk16⟩⟩
  have hs17 := World.grownBy.size g12
  have hs18 := World.grownBy.size G
  have hs19 := World.grownBy.size g12
  replace G := grown_trans G g12
  replace hB4 := hB4.grown g12 (by intro h; injection h with h; omega)
  replace hR := hB13
  refine Sq.eql .plain rfl rfl rfl ?_
  refine Sq.part (fun c20 => ?_) (fun c20 => ?_)
  · refine Sq.nil ?_
    refine Eq.next ?_
    refine Cq.thn rfl ?_
    refine Cq.seq ?_
    refine Cq.region ?_
    refine Sq.move .plain rfl rfl ?_
    refine Sq.move .plain rfl rfl ?_
    refine Sq.move .plain rfl rfl ?_
    refine Sq.lit sl36 rfl rfl .plain rfl rfl (one_cons rfl (one_cons rfl (one_cons rfl (one_cons rfl one_nil)))) (fun b21 w22 e23 hlo24 ho25 _ => ?_)
    replace ho25 := ho25 w10.heap.size (Nat.le_refl _)
    have hs27 := Below.size e23
    replace hR := hR.ext e23
    replace G := grown_trans G (Ext.to_grown e23 _)
    replace hB4 := hB4.ext e23
    refine Sq.call fn52 .plain rfl rfl (num_c _ _ _ _ _ _ hR (hb.go G) hbl (by omega) _ [3, 2, 4, 1] (Own.row ho25) (by simp)) ?_
    rintro _ w29 ⟨⟨p30, hp33, hB32, g31⟩, ⟨k34, rfl, hm35⟩⟩
    have hs36 := World.grownBy.size g31
    have hs37 := World.grownBy.size G
    have hs38 := World.grownBy.size g31
    replace G := grown_trans G g31
    replace hB4 := hB4.grown g31 (by intro h; injection h with h; omega)
    replace hR := hB32
    simp only [List.mem_cons, List.not_mem_nil, or_false] at hm35
    refine Sq.call fn65 .plain rfl rfl (l3Safe_c _ _ _ _ _ _ hR (hb.go G) hbl (by omega) al k34 (by omega) (by omega)) ?_
    rintro _ w40 ⟨⟨p41, hp44, hB43, g42⟩, ⟨a45, ⟨nx46, ac47, rfl, hn48, ha49⟩, hv50, hal51, hlen52⟩⟩
    have hs53 := World.grownBy.size g42
    have hs54 := World.grownBy.size G
    have hs55 := World.grownBy.size g42
    replace G := grown_trans G g42
    replace hB4 := hB4.grown g42 (by intro h; injection h with h; omega)
    replace hR := hB43
    refine Sq.storeAgg agg26 .plain rfl rfl (one_cons rfl (one_cons (Rows.one (OwnRows.rows hn48)) (one_cons (Row.one (Own.row ha49)) one_nil))) hB4 rfl rfl (fun w56 g57 hB58 => ?_)
    have hs59 := World.grownBy.size g57
    replace hR := hR.grown g57 (by intro h; injection h with h; omega)
    replace G := grown_far G g57 (fun k hk => by injection hk with hk; subst hk; omega)
    replace hn48 := hn48.stored g57 hB4 (by decide) (by decide)
    replace ha49 := ha49.stored g57 hB4 (by decide)
    replace hB4 := hB58
    refine Sq.nil ?_
    refine Eq.next ?_
    refine Cq.ret ?_
    refine Eq.pastRet ?_
    refine Eq.retCell rfl rfl agg26 hB4 rfl ?_
    exact ⟨⟨_, by omega, hR, G⟩, _, ⟨_, _, rfl, OwnRows.now (OwnRows.mono hn48 (by omega)), Own.mono ha49 (by omega)⟩, hv50, hal51⟩
  refine Sq.nil ?_
  refine Eq.next ?_
  refine Cq.els rfl ?_
  refine Cq.skip ?_
  refine Eq.next ?_
  refine Cq.seq ?_
  refine Cq.region ?_
  refine Sq.move .plain rfl rfl ?_
  refine Sq.move .plain rfl rfl ?_
  refine Sq.move .plain rfl rfl ?_
  refine Sq.lit sl36 rfl rfl .plain rfl rfl (one_cons rfl (one_cons rfl (one_cons rfl (one_cons rfl (one_cons rfl one_nil))))) (fun b60 w61 e62 hlo63 ho64 _ => ?_)
  replace ho64 := ho64 w10.heap.size (Nat.le_refl _)
  have hs66 := Below.size e62
  replace hR := hR.ext e62
  replace G := grown_trans G (Ext.to_grown e62 _)
  replace hB4 := hB4.ext e62
  refine Sq.call fn52 .plain rfl rfl (num_c _ _ _ _ _ _ hR (hb.go G) hbl (by omega) _ [2, 3, 1, 4, 5] (Own.row ho64) (by simp)) ?_
  rintro _ w68 ⟨⟨p69, hp72, hB71, g70⟩, ⟨k73, rfl, hm74⟩⟩
  have hs75 := World.grownBy.size g70
  have hs76 := World.grownBy.size G
  have hs77 := World.grownBy.size g70
  replace G := grown_trans G g70
  replace hB4 := hB4.grown g70 (by intro h; injection h with h; omega)
  replace hR := hB71
  simp only [List.mem_cons, List.not_mem_nil, or_false] at hm74
  refine Sq.call fn66 .plain rfl rfl (l3Random_c _ _ _ _ _ _ hR (hb.go G) hbl (by omega) al k73 (by omega) (by omega)) ?_
  rintro _ w79 ⟨⟨p80, hp83, hB82, g81⟩, ⟨a84, ⟨nx85, ac86, rfl, hn87, ha88⟩, hv89, hal90, hlen91⟩⟩
  have hs92 := World.grownBy.size g81
  have hs93 := World.grownBy.size G
  have hs94 := World.grownBy.size g81
  replace G := grown_trans G g81
  replace hB4 := hB4.grown g81 (by intro h; injection h with h; omega)
  replace hR := hB82
  refine Sq.storeAgg agg26 .plain rfl rfl (one_cons rfl (one_cons (Rows.one (OwnRows.rows hn87)) (one_cons (Row.one (Own.row ha88)) one_nil))) hB4 rfl rfl (fun w95 g96 hB97 => ?_)
  have hs98 := World.grownBy.size g96
  replace hR := hR.grown g96 (by intro h; injection h with h; omega)
  replace G := grown_far G g96 (fun k hk => by injection hk with hk; subst hk; omega)
  replace hn87 := hn87.stored g96 hB4 (by decide) (by decide)
  replace ha88 := ha88.stored g96 hB4 (by decide)
  replace hB4 := hB97
  refine Sq.nil ?_
  refine Eq.next ?_
  refine Cq.ret ?_
  refine Eq.retCell rfl rfl agg26 hB4 rfl ?_
  exact ⟨⟨_, by omega, hR, G⟩, _, ⟨_, _, rfl, OwnRows.now (OwnRows.mono hn87 (by omega)), Own.mono ha88 (by omega)⟩, hv89, hal90⟩
set_option maxRecDepth 100000 in
theorem l3Big_c (w0 : World) (rb : Nat) (bv : Value) (p : Int) (bs : List UInt8) (e0 : TypeId) (hR : Blk w0 rb 73 [bv, .int .i64 p]) (hb : Src w0 e0 bv bs rb) (hbl : bs.length ≤ 2000) (hp : 0 ≤ p ∧ p ≤ 800000000) : Ret Tryz.prog 55 #[Value.pointer (some ⟨rb, 0, none⟩)] w0 (fun v w => (∃ p', (p ≤ p' ∧ p' ≤ p + 100) ∧ Blk w rb 73 [bv, .int .i64 p'] ∧ w0.grownBy w (some rb)) ∧ ∃ a, OwnA w w0.heap.size v a ∧ validA a = true) := by
  have G := World.grownBy.refl w0 (some rb)
  have hlt := hR.lt
  refine Ret.of (args := [Value.pointer (some ⟨rb, 0, none⟩)]) Tryz.func55 rfl rfl rfl ?_
  rintro _ rfl
  show Cq _ _ _ _ [(0, Value.pointer (some ⟨rb, 0, none⟩))] _
  refine Cq.seq ?_
  refine Cq.region ?_
  refine Sq.alloc zero26 .plain rfl (fun b1 w2 e3 hB4 hlo5 => ?_)
  have hd6 := Nat.lt_of_lt_of_le hR.lt hlo5
  have hd7 := Nat.le_trans (World.grownBy.size G) hlo5
  have hs8 := Below.size e3
  replace hR := hR.ext e3
  replace G := grown_trans G (Ext.to_grown e3 _)
  refine Sq.nil ?_
  refine Eq.next ?_
  refine Cq.seq ?_
  refine Cq.region ?_
  refine Sq.build st26 rfl rfl .plain rfl rfl (one_cons rfl one_nil) rfl ?_
  refine Sq.alloc zero26 .plain rfl (fun b9 w10 e11 hB12 hlo13 => ?_)
  have hd14 := Nat.lt_of_lt_of_le hR.lt hlo13
  have hd15 := Nat.le_trans (World.grownBy.size G) hlo13
  have hd16 := Nat.lt_of_lt_of_le hB4.lt hlo13
  have hs17 := Below.size e11
  replace hR := hR.ext e11
  replace G := grown_trans G (Ext.to_grown e11 _)
  replace hB4 := hB4.ext e11
  refine Sq.storeAgg agg26 .plain rfl rfl (one_cons rfl (one_cons rfl (one_cons rfl one_nil))) hB12 rfl rfl (fun w18 g19 hB20 => ?_)
  have hs21 := World.grownBy.size g19
  replace hR := hR.grown g19 (by intro h; injection h with h; omega)
  replace G := grown_far G g19 (fun k hk => by injection hk with hk; subst hk; omega)
  replace hB4 := hB4.grown g19 (by intro h; injection h with h; omega)
  replace hB12 := hB20
  refine Sq.nil ?_
  refine Eq.next ?_
  refine Cq.seq ?_
  refine Cq.seq ?_
  refine Cq.region ?_
  refine Sq.assign .plain rfl rfl ?_
  refine Sq.nil ?_
  refine Eq.next ?_
  refine Cq.block ?_
  refine Cq.loop (fun nn w ls => ∃ (i : Int), ∃ (p1 : Int), ∃ (nxv : Value), ∃ (acv : Value), ∃ (xss : List (List Int)), ∃ (ys : List Bool), ls = [(0, Value.pointer (some ⟨rb, 0, none⟩)), (2, Value.pointer (some ⟨b1, 0, none⟩)), (3, Value.pointer (some ⟨b9, 0, none⟩)), (4, Value.int .i64 i)] ∧ (0 ≤ i ∧ i ≤ 12) ∧ (p ≤ p1 ∧ p1 ≤ p + 3 * i) ∧ Blk w rb 73 [bv, Value.int .i64 p1] ∧ Blk w b9 26 [Value.int .i64 3, nxv, acv] ∧ OwnRows w w0.heap.size w.heap.size 36 3 nxv xss ∧ Own w w0.heap.size 4 acv (ys.map Value.bool) ∧ ((xss.length : Int) = i ∧ (ys.length : Int) = i ∧ ∀ row ∈ xss, rowOk 2 12 row = true) ∧ World.grownBy w0 w (some rb) ∧ Blk w b1 26 [Value.int .i64 0, Value.slice none 0 0, Value.slice none 0 0] ∧ nn = (12 - i).toNat) _ _ ⟨0, p, _, _, [], [], rfl, by omega, by omega, hR, hB12, OwnRows.nil _ _ _ _ _, Own.nil _ _ _, by simp, G, hB4, rfl⟩ (.cons rfl (.cons rfl (.cons rfl (.cons rfl (.nil))))) ?_
  rintro nn wl1 ls ⟨i, p1, nxv, acv, xss, ys, rfl, hi, hp1, hR, hB7, hor, hoa, hxl, G, hB4, rfl⟩
  have hs22 := World.grownBy.size G
  refine Cq.seq ?_
  refine Cq.seq ?_
  refine Cq.region ?_
  refine Sq.move .plain rfl rfl ?_
  refine Sq.lss .plain rfl rfl rfl ?_
  refine Sq.part (fun c23 => ?_) (fun c23 => ?_)
  · refine Sq.nil ?_
    refine Eq.next ?_
    refine Cq.thn rfl ?_
    refine Cq.skip ?_
    refine Eq.next ?_
    refine Cq.seq ?_
    refine Cq.block ?_
    refine Cq.seq ?_
    refine Cq.drawS 12 (fun w' => Blk w' b9 26 [Value.int .i64 3, nxv, acv]) mixed (hB7) (fun w24 e25 hS => ?_)
    clear hS
    have hs26 := Below.size e25
    replace G := grown_trans G (Ext.to_grown e25 _)
    replace hB4 := hB4.ext e25
    replace hR := hR.ext e25
    replace hB7 := hB7.ext e25
    replace hor := hor.ext e25
    replace hoa := hoa.ext e25
    refine Gq.st 0 rfl (by kernel_rfl) rfl .plain rfl (fun _ _ _ h => h) hB7 (fun w' x => Still.fieldAddr fld26_1 rfl) ?_
    refine Gq.st 1 rfl (by kernel_rfl) rfl .plain rfl (fun _ _ _ h => h) hB7 (fun w' x => Still.loadB one23 rfl x rfl) ?_
    refine Gq.st 2 rfl (by kernel_rfl) rfl .plain rfl (fun _ _ _ h => h) hB7 (fun w' x => Still.move rfl) ?_
    refine Gq.st 3 rfl (by kernel_rfl) rfl .plain rfl (fun _ _ _ h => h) hB7 (fun w' x => Still.add rfl rfl (by omega)) ?_
    refine Gq.st 4 rfl (by kernel_rfl) rfl .plain rfl (fun _ _ _ h => h) hB7 (fun w' x => Still.rem rfl rfl (by omega)) ?_
    refine Gq.st 5 rfl (by kernel_rfl) rfl .plain rfl (fun _ _ _ h => h) hB7 (fun w' x => Still.move rfl) ?_
    refine Gq.st 6 rfl (by kernel_rfl) rfl .plain rfl (fun _ _ _ h => h) hB7 (fun w' x => Still.move rfl) ?_
    refine Gq.one 7 rfl (by kernel_rfl) ?_
    refine Sq.lit sl36 rfl rfl .plain rfl rfl (one_cons rfl (one_cons rfl (one_cons rfl one_nil))) (fun b27 w28 e29 hlo30 ho31 _ => ?_)
    replace ho31 := ho31 w24.heap.size (Nat.le_refl _)
    have hs33 := Below.size e29
    replace G := grown_trans G (Ext.to_grown e29 _)
    replace hB4 := hB4.ext e29
    replace hR := hR.ext e29
    replace hB7 := hB7.ext e29
    replace hor := hor.ext e29
    replace hoa := hoa.ext e29
    refine Sq.nil ?_
    refine Eq.goes (fun _ => hB7) ?_
    refine Gq.one 8 rfl (by kernel_rfl) ?_
    refine Sq.call fn52 .plain rfl rfl (num_c _ _ _ _ _ _ hR (hb.go G) hbl (by omega) _ [i, 0, 11] (Own.row ho31) (by simp)) ?_
    rintro _ w35 ⟨⟨p36, hp39, hB38, g37⟩, ⟨k40, rfl, hm41⟩⟩
    have hs42 := World.grownBy.size g37
    have hs43 := World.grownBy.size G
    have hs44 := World.grownBy.size g37
    replace G := grown_trans G g37
    replace hB4 := hB4.grown g37 (by intro h; injection h with h; omega)
    replace hB7 := hB7.grown g37 (by intro h; injection h with h; omega)
    replace hor := hor.stored g37 hR (by decide) (by decide)
    replace hoa := hoa.stored g37 hR (by decide)
    replace hR := hB38
    simp only [List.mem_cons, List.not_mem_nil, or_false] at hm41
    refine Sq.nil ?_
    refine Eq.goes (fun _ => hB7) ?_
    refine Gq.one 9 rfl (by kernel_rfl) ?_
    refine Sq.lit sl36 rfl rfl .plain rfl rfl (one_cons rfl (one_cons rfl one_nil)) (fun b45 w46 e47 hlo48 ho49 _ => ?_)
    replace ho49 := ho49 w35.heap.size (Nat.le_refl _)
    have hs51 := Below.size e47
    replace G := grown_trans G (Ext.to_grown e47 _)
    replace hB4 := hB4.ext e47
    replace hR := hR.ext e47
    replace hB7 := hB7.ext e47
    replace hor := hor.ext e47
    replace hoa := hoa.ext e47
    refine Sq.nil ?_
    refine Eq.goes (fun _ => hB7) ?_
    refine Gq.one 10 rfl (by kernel_rfl) ?_
    refine Sq.lit sl23 rfl rfl .plain rfl rfl (one_cons (Row.one (Own.row ho49)) one_nil) (fun b52 w53 e54 hlo55 ho56 _ => ?_)
    replace ho56 := ho56 w46.heap.size (Nat.le_refl _)
    have hs58 := Below.size e54
    replace G := grown_trans G (Ext.to_grown e54 _)
    replace hB4 := hB4.ext e54
    replace hR := hR.ext e54
    replace hB7 := hB7.ext e54
    replace hor := hor.ext e54
    replace hoa := hoa.ext e54
    replace ho49 := ho49.ext e54
    refine Sq.nil ?_
    refine Eq.goes (fun _ => hB7) ?_
    refine Gq.one 11 rfl (by kernel_rfl) ?_
    obtain ⟨rs63, q64, q65, q66⟩ := OwnRows.open hor (by decide)
    have q66x := Ext.refl w53
    refine Sq.app sl23 q64 (by omega) (Own.row ho56) (one_cons (Row.one (Own.row ho49)) one_nil) (by rw [q65]; first | omega | (simp; omega)) .plain rfl rfl rfl rfl (fun v59 w60 ho62 g61 => ?_)
    have hs67 := g61.size
    have ho62r := q66 _ (([(i + 1) % 12, k40] : List Int)) _ _ _ (Ext.refl _) (Own.mono ho49 (by omega)) (by omega) ho62 g61
    replace G := grown_new G q64 g61 (by omega)
    replace hB4 := hB4.owned q64 g61 (by decide)
    replace hR := hR.owned q64 g61 (by decide)
    replace hB7 := hB7.owned q64 g61 (by decide)
    replace hoa := hoa.owned q64 g61 (by decide)
    refine Sq.nil ?_
    refine Eq.goes (fun _ => hB7) ?_
    refine Gq.one 12 rfl (by kernel_rfl) ?_
    refine Sq.fieldAddr fld26_1 .plain rfl rfl ?_
    refine Sq.nil ?_
    refine Eq.goes (fun h => absurd h (by decide)) ?_
    refine Gq.one 13 rfl (by kernel_rfl) ?_
    refine Sq.store one23 .plain rfl rfl (Rows.one (OwnRows.rows ho62r)) hB7 (by simp) (fun w68 g69 hB70 => ?_)
    have hs71 := World.grownBy.size g69
    replace G := grown_far G g69 (fun k hk => by injection hk with hk; subst hk; omega)
    replace hB4 := hB4.grown g69 (by intro h; injection h with h; omega)
    replace hR := hR.grown g69 (by intro h; injection h with h; omega)
    replace hoa := hoa.stored g69 hB7 (by decide)
    replace ho62r := ho62r.stored g69 hB7 (by decide) (by decide)
    replace hB7 := hB70
    refine Sq.nil ?_
    refine Eq.goes (fun h => absurd h (by decide)) ?_
    refine Gq.done (by kernel_rfl) ?_
    refine Eq.next ?_
    refine Cq.drawS 11 (fun w' => Blk w' b9 26 [Value.int .i64 3, v59, acv]) mixed (hB7) (fun w72 e73 hS => ?_)
    clear hS
    have hs74 := Below.size e73
    replace G := grown_trans G (Ext.to_grown e73 _)
    replace hB4 := hB4.ext e73
    replace hR := hR.ext e73
    replace hB7 := hB7.ext e73
    replace hoa := hoa.ext e73
    replace ho62r := ho62r.ext e73
    refine Gq.st 0 rfl (by kernel_rfl) rfl .plain rfl (fun _ _ _ h => h) hB7 (fun w' x => Still.fieldAddr fld26_2 rfl) ?_
    refine Gq.st 1 rfl (by kernel_rfl) rfl .plain rfl (fun _ _ _ h => h) hB7 (fun w' x => Still.loadB one24 rfl x rfl) ?_
    refine Gq.st 2 rfl (by kernel_rfl) rfl .plain rfl (fun _ _ _ h => h) hB7 (fun w' x => Still.move rfl) ?_
    refine Gq.st 3 rfl (by kernel_rfl) rfl .plain rfl (fun _ _ _ h => h) hB7 (fun w' x => Still.eql rfl rfl) ?_
    refine Gq.part (fun c75 => ?_) (fun c75 => ?_)
    · refine Gq.st 4 rfl (by kernel_rfl) rfl .plain rfl (fun _ _ _ h => h) hB7 (fun w' x => Still.move rfl) ?_
      refine Gq.off 5 rfl (by kernel_rfl) rfl rfl rfl rfl rfl rfl (fun _ _ _ h => h) hB7 ?_
      refine Gq.off 6 rfl (by kernel_rfl) rfl rfl rfl rfl rfl rfl (fun _ _ _ h => h) hB7 ?_
      refine Gq.off 7 rfl (by kernel_rfl) rfl rfl rfl rfl rfl rfl (fun _ _ _ h => h) hB7 ?_
      refine Gq.st 8 rfl (by kernel_rfl) rfl .plain rfl (fun _ _ _ h => h) hB7 (fun w' x => Still.pickT rfl rfl) ?_
      refine Gq.one 9 rfl (by kernel_rfl) ?_
      refine Sq.lit sl24 rfl rfl .plain rfl rfl (one_cons rfl one_nil) (fun b76 w77 e78 hlo79 ho80 _ => ?_)
      replace ho80 := ho80 w72.heap.size (Nat.le_refl _)
      have hs82 := Below.size e78
      replace G := grown_trans G (Ext.to_grown e78 _)
      replace hB4 := hB4.ext e78
      replace hR := hR.ext e78
      replace hB7 := hB7.ext e78
      replace hoa := hoa.ext e78
      replace ho62r := ho62r.ext e78
      refine Sq.nil ?_
      refine Eq.goes (fun _ => hB7) ?_
      refine Gq.one 10 rfl (by kernel_rfl) ?_
      refine Sq.app sl24 hoa (by omega) (Own.row ho80) (one_cons rfl one_nil) (by first | omega | (simp; omega)) .plain rfl rfl rfl rfl (fun v83 w84 ho86 g85 => ?_)
      have hs87 := g85.size
      replace G := grown_new G hoa g85 (by omega)
      replace hB4 := hB4.owned hoa g85 (by decide)
      replace hR := hR.owned hoa g85 (by decide)
      replace hB7 := hB7.owned hoa g85 (by decide)
      replace ho62r := ho62r.owned hoa g85 (by decide) (by decide)
      refine Sq.nil ?_
      refine Eq.goes (fun _ => hB7) ?_
      refine Gq.one 11 rfl (by kernel_rfl) ?_
      refine Sq.fieldAddr fld26_2 .plain rfl rfl ?_
      refine Sq.nil ?_
      refine Eq.goes (fun h => absurd h (by decide)) ?_
      refine Gq.one 12 rfl (by kernel_rfl) ?_
      refine Sq.store one24 .plain rfl rfl (Row.one (Own.row ho86)) hB7 (by simp) (fun w88 g89 hB90 => ?_)
      have hs91 := World.grownBy.size g89
      replace G := grown_far G g89 (fun k hk => by injection hk with hk; subst hk; omega)
      replace hB4 := hB4.grown g89 (by intro h; injection h with h; omega)
      replace hR := hR.grown g89 (by intro h; injection h with h; omega)
      replace ho62r := ho62r.stored g89 hB7 (by decide) (by decide)
      replace ho86 := ho86.stored g89 hB7 (by decide)
      replace hB7 := hB90
      refine Sq.nil ?_
      refine Eq.goes (fun h => absurd h (by decide)) ?_
      refine Gq.done (by kernel_rfl) ?_
      refine Eq.end ?_
      refine Eq.next ?_
      refine Cq.region ?_
      refine Sq.move .plain rfl rfl ?_
      refine Sq.add .plain rfl rfl rfl (by omega) ?_
      refine Sq.assign .plain rfl rfl ?_
      refine Sq.nil ?_
      refine Eq.round _ _ ⟨i + 1, _, _, _, _, _, rfl, by omega, by omega, hR, hB7, OwnRows.now ho62r, Own.snocB ho86, ⟨by simp; omega, by simp; omega, rows_snoc hxl.2.2 (rowOk_mk rfl (by simp; omega))⟩, G, hB4, rfl⟩ (by omega) (.cons rfl (.cons rfl (.cons rfl (.cons rfl (.nil)))))
    refine Gq.st 4 rfl (by kernel_rfl) rfl .plain rfl (fun _ _ _ h => h) hB7 (fun w' x => Still.move rfl) ?_
    refine Gq.st 5 rfl (by kernel_rfl) rfl (.met rfl rfl rfl) rfl (fun _ _ _ h => h) hB7 (fun w' x => Still.move rfl) ?_
    refine Gq.one 6 rfl (by kernel_rfl) ?_
    refine Sq.call fn31 (.met rfl rfl rfl) rfl rfl (pick_c _ _ _ _ _ _ hR (hb.go G) hbl (by omega) 5 (by omega)) ?_
    rintro _ w93 ⟨⟨p94, hp97, hB96, g95⟩, ⟨k98, rfl, hk99⟩⟩
    have hs100 := World.grownBy.size g95
    have hs101 := World.grownBy.size G
    have hs102 := World.grownBy.size g95
    replace G := grown_trans G g95
    replace hB4 := hB4.grown g95 (by intro h; injection h with h; omega)
    replace hB7 := hB7.grown g95 (by intro h; injection h with h; omega)
    replace hoa := hoa.stored g95 hR (by decide)
    replace ho62r := ho62r.stored g95 hR (by decide) (by decide)
    replace hR := hB96
    refine Sq.nil ?_
    refine Eq.goes (fun _ => hB7) ?_
    refine Gq.st 7 rfl (by kernel_rfl) rfl (.met rfl rfl rfl) rfl (fun _ _ _ h => h) hB7 (fun w' x => Still.eql rfl rfl) ?_
    refine Gq.st 8 rfl (by kernel_rfl) rfl .plain rfl (fun _ _ _ h => h) hB7 (fun w' x => Still.pickF rfl rfl) ?_
    refine Gq.one 9 rfl (by kernel_rfl) ?_
    refine Sq.lit sl24 rfl rfl .plain rfl rfl (one_cons rfl one_nil) (fun b103 w104 e105 hlo106 ho107 _ => ?_)
    replace ho107 := ho107 w93.heap.size (Nat.le_refl _)
    have hs109 := Below.size e105
    replace G := grown_trans G (Ext.to_grown e105 _)
    replace hB4 := hB4.ext e105
    replace hR := hR.ext e105
    replace hB7 := hB7.ext e105
    replace hoa := hoa.ext e105
    replace ho62r := ho62r.ext e105
    refine Sq.nil ?_
    refine Eq.goes (fun _ => hB7) ?_
    refine Gq.one 10 rfl (by kernel_rfl) ?_
    refine Sq.app sl24 hoa (by omega) (Own.row ho107) (one_cons rfl one_nil) (by first | omega | (simp; omega)) .plain rfl rfl rfl rfl (fun v110 w111 ho113 g112 => ?_)
    have hs114 := g112.size
    replace G := grown_new G hoa g112 (by omega)
    replace hB4 := hB4.owned hoa g112 (by decide)
    replace hR := hR.owned hoa g112 (by decide)
    replace hB7 := hB7.owned hoa g112 (by decide)
    replace ho62r := ho62r.owned hoa g112 (by decide) (by decide)
    refine Sq.nil ?_
    refine Eq.goes (fun _ => hB7) ?_
    refine Gq.one 11 rfl (by kernel_rfl) ?_
    refine Sq.fieldAddr fld26_2 .plain rfl rfl ?_
    refine Sq.nil ?_
    refine Eq.goes (fun h => absurd h (by decide)) ?_
    refine Gq.one 12 rfl (by kernel_rfl) ?_
    refine Sq.store one24 .plain rfl rfl (Row.one (Own.row ho113)) hB7 (by simp) (fun w115 g116 hB117 => ?_)
    have hs118 := World.grownBy.size g116
    replace G := grown_far G g116 (fun k hk => by injection hk with hk; subst hk; omega)
    replace hB4 := hB4.grown g116 (by intro h; injection h with h; omega)
    replace hR := hR.grown g116 (by intro h; injection h with h; omega)
    replace ho62r := ho62r.stored g116 hB7 (by decide) (by decide)
    replace ho113 := ho113.stored g116 hB7 (by decide)
    replace hB7 := hB117
    refine Sq.nil ?_
    refine Eq.goes (fun h => absurd h (by decide)) ?_
    refine Gq.done (by kernel_rfl) ?_
    refine Eq.end ?_
    refine Eq.next ?_
    refine Cq.region ?_
    refine Sq.move .plain rfl rfl ?_
    refine Sq.add .plain rfl rfl rfl (by omega) ?_
    refine Sq.assign .plain rfl rfl ?_
    refine Sq.nil ?_
    refine Eq.round _ _ ⟨i + 1, _, _, _, _, _, rfl, by omega, by omega, hR, hB7, OwnRows.now ho62r, Own.snocB ho113, ⟨by simp; omega, by simp; omega, rows_snoc hxl.2.2 (rowOk_mk rfl (by simp; omega))⟩, G, hB4, rfl⟩ (by omega) (.cons rfl (.cons rfl (.cons rfl (.cons rfl (.nil)))))
  refine Sq.nil ?_
  refine Eq.next ?_
  refine Cq.els rfl ?_
  refine Cq.exit ?_
  refine Eq.past ?_
  refine Eq.past ?_
  refine Eq.hit ?_
  refine Eq.next ?_
  refine Cq.seq ?_
  refine Cq.region ?_
  refine Sq.loadAgg agg26 .plain rfl rfl hB7 rfl ?_
  refine Sq.storeAgg agg26 .plain rfl rfl (one_cons rfl (one_cons (Rows.one (OwnRows.rows hor)) (one_cons (Row.one (Own.row hoa)) one_nil))) hB4 rfl rfl (fun w119 g120 hB121 => ?_)
  have hs122 := World.grownBy.size g120
  replace G := grown_far G g120 (fun k hk => by injection hk with hk; subst hk; omega)
  replace hR := hR.grown g120 (by intro h; injection h with h; omega)
  replace hor := hor.stored g120 hB4 (by decide) (by decide)
  replace hoa := hoa.stored g120 hB4 (by decide)
  replace hB4 := hB121
  refine Sq.nil ?_
  refine Eq.next ?_
  refine Cq.ret ?_
  refine Eq.retCell rfl rfl agg26 hB4 rfl ?_
  exact ⟨⟨_, by omega, hR, G⟩, ⟨3, xss, ys⟩, ⟨_, _, rfl, OwnRows.now hor, hoa⟩, validA_mk (by show (0 : Int) ≤ 3 ∧ (3 : Int) ≤ 63; decide) (by show 1 ≤ xss.length ∧ xss.length ≤ 12; omega) (by show ys.length = xss.length; omega) (by intro row hr; have e : ((⟨3, xss, ys⟩ : A).next.length : Int) = 12 := (by show (xss.length : Int) = 12; omega); rw [e]; show rowOk ((letters 3).length : Int) 12 row = true; rw [show ((letters 3).length : Int) = 2 from by decide]; exact hxl.2.2 row hr)⟩
end Go.Proofs.YtnckpafknojdhaaGreatDoor
