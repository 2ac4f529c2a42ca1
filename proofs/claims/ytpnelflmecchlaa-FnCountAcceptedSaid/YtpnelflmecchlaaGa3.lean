/-
  The texts of this proof, joined (wip/merge.py): the calculus of slots, plain mathematics, walks.
-/
import Derived.Test.YtpnelflmecchlaaGa2
set_option linter.unusedSimpArgs false
set_option linter.unusedVariables false
namespace Go.Proofs.Ytpnelflmecchlaa
open Go.RowKit
set_option maxRecDepth 100000 in
theorem l1Text_c (x : Int) (hx : 0 ≤ x ∧ x ≤ 100) (w0 : World) : Ret Try.prog 45 #[Value.int .i64 x] w0 (fun v w => v = .string (chr x) ∧ Ext w0 w) := by
  have E := Ext.refl w0
  refine Ret.of (args := [Value.int .i64 x]) Try.func45 rfl rfl rfl ?_
  rintro _ rfl
  show Cq _ _ _ _ [(0, Value.int .i64 x)] _
  refine Cq.seq ?_
  refine Cq.region ?_
  refine Sq.assign .plain rfl rfl ?_
  refine Sq.nil ?_
  refine Eq.next ?_
  refine Cq.seq ?_
  refine Cq.region ?_
  refine Sq.move .plain rfl rfl ?_
  refine Sq.add .plain rfl rfl rfl (by omega) ?_
  refine Sq.conv8 conv3_5 .plain rfl rfl (by omega) ?_
  refine Sq.lit sl22 rfl rfl .plain rfl rfl (one_cons rfl one_nil) (fun b1 w2 e3 hlo4 ho5 _ => ?_)
  replace ho5 := ho5 w0.heap.size (Nat.le_refl _)
  have hs7 := Below.size e3
  replace E := E.trans e3
  refine Sq.val .plain rfl rfl (Still.text1 und22 und8_22 und9 ho5 (by omega) rfl) ?_
  refine Sq.assign .plain rfl rfl ?_
  refine Sq.nil ?_
  refine Eq.next ?_
  refine Cq.ret ?_
  refine Eq.ret1 rfl rfl ?_
  exact ⟨rfl, E⟩
set_option maxRecDepth 100000 in
theorem fmtAl_c (al : Int) (w0 : World) : Ret Try.prog 42 #[Value.int .i64 al] w0 (fun v w => v = .string (fmtAl al) ∧ Ext w0 w) := by
  have E := Ext.refl w0
  refine Ret.of (args := [Value.int .i64 al]) Try.func42 rfl rfl rfl ?_
  rintro _ rfl
  show Cq _ _ _ _ [(0, Value.int .i64 al)] _
  refine Cq.seq ?_
  refine Cq.region ?_
  refine Sq.assign .plain rfl rfl ?_
  refine Sq.nil ?_
  refine Eq.next ?_
  refine Cq.seq ?_
  refine Cq.seq ?_
  refine Cq.region ?_
  refine Sq.move .plain rfl rfl ?_
  refine Sq.call fn23 .plain rfl rfl (l1Alphabet_c _ _) ?_
  rintro _ _ ⟨rfl, rfl⟩
  refine Sq.part (fun c1 => ?_) (fun c1 => ?_)
  · refine Sq.notT .plain rfl rfl ?_
    refine Sq.nil ?_
    refine Eq.next ?_
    refine Cq.els rfl ?_
    refine Cq.skip ?_
    refine Eq.next ?_
    refine Cq.seq ?_
    refine Cq.seq ?_
    refine Cq.region ?_
    refine Sq.move .plain rfl rfl ?_
    refine Sq.eql .plain rfl rfl rfl ?_
    refine Sq.part (fun c2 => ?_) (fun c2 => ?_)
    · refine Sq.nil ?_
      refine Eq.next ?_
      refine Cq.thn rfl ?_
      refine Cq.seq ?_
      refine Cq.region ?_
      refine Sq.assign .plain rfl rfl ?_
      refine Sq.nil ?_
      refine Eq.next ?_
      refine Cq.ret ?_
      refine Eq.pastRet ?_
      refine Eq.ret1 rfl rfl ?_
      exact ⟨by first | rw [fmtAl_bad (by omega)] | rw [fmtAl_zero (by omega)] | rw [fmtAl_good (by omega) (by omega) (k := k.toNat) (by omega)], E⟩
    refine Sq.nil ?_
    refine Eq.next ?_
    refine Cq.els rfl ?_
    refine Cq.skip ?_
    refine Eq.next ?_
    refine Cq.seq ?_
    refine Cq.region ?_
    refine Sq.assign .plain rfl rfl ?_
    refine Sq.nil ?_
    refine Eq.next ?_
    refine Cq.seq ?_
    refine Cq.region ?_
    refine Sq.move .plain rfl rfl ?_
    refine Sq.call fn25 .plain rfl rfl (l1Letters_c al (by omega) _) ?_
    rintro v3 w4 ⟨hl6, e5⟩
    have hs7 := Below.size E
    have hs8 := Below.size e5
    replace E := E.trans e5
    refine Sq.assign .plain rfl rfl ?_
    refine Sq.nil ?_
    refine Eq.next ?_
    refine Cq.seq ?_
    refine Cq.seq ?_
    refine Cq.region ?_
    refine Sq.assign .plain rfl rfl ?_
    refine Sq.nil ?_
    refine Eq.next ?_
    refine Cq.block ?_
    refine Cq.loop (fun nn w ls => ∃ (k : Int), ls = [(0, Value.int .i64 al), (3, Value.string (fmtTo al k.toNat)), (4, v3), (5, Value.int .i64 k)] ∧ (0 ≤ k ∧ k ≤ (letters al).length) ∧ Ext w0 w ∧ Own w w0.heap.size 3 v3 ((letters al).map (Value.int .i64)) ∧ nn = ((letters al).length - k).toNat) _ _ ⟨0, rfl, by omega, E, hl6, rfl⟩ (.cons rfl (.cons rfl (.cons rfl (.cons rfl (.nil))))) ?_
    rintro nn wl1 ls ⟨k, rfl, hk, E, hl6, rfl⟩
    have hs9 := Below.size E
    have hlet := letters_len6 al
    have hsz := fmtTo_size al k.toNat
    have hlt := letters_at al (k := k.toNat)
    refine Cq.seq ?_
    refine Cq.seq ?_
    refine Cq.region ?_
    refine Sq.move .plain rfl rfl ?_
    refine Sq.move .plain rfl rfl ?_
    refine Sq.lenInts (Own.row hl6) .plain rfl und38 rfl ?_
    refine Sq.lss .plain rfl rfl rfl ?_
    refine Sq.part (fun c10 => ?_) (fun c10 => ?_)
    · refine Sq.nil ?_
      refine Eq.next ?_
      refine Cq.thn rfl ?_
      refine Cq.skip ?_
      refine Eq.next ?_
      refine Cq.seq ?_
      refine Cq.block ?_
      refine Cq.region ?_
      refine Sq.move .plain rfl rfl ?_
      refine Sq.move .plain rfl rfl ?_
      refine Sq.move .plain rfl rfl ?_
      refine Sq.idxInts sl38 one3 (Own.row hl6) .plain rfl rfl rfl .plain rfl rfl (by omega) (by omega) ?_
      refine Sq.call fn45 .plain rfl rfl (l1Text_c ((letters al).getD k.toNat 0) (by (have := hlt (by omega); omega)) _) ?_
      rintro _ w12 ⟨rfl, e13⟩
      have hs14 := Below.size E
      have hs15 := Below.size e13
      replace E := E.trans e13
      replace hl6 := hl6.ext e13
      refine Sq.cat .plain rfl rfl rfl (by rw [chr_size]; omega) ?_
      refine Sq.assign .plain rfl rfl ?_
      refine Sq.nil ?_
      refine Eq.end ?_
      refine Eq.next ?_
      refine Cq.region ?_
      refine Sq.move .plain rfl rfl ?_
      refine Sq.add .plain rfl rfl rfl (by omega) ?_
      refine Sq.assign .plain rfl rfl ?_
      refine Sq.nil ?_
      have e1 := toNat_succ hk.1
      rw [← fmtTo_succ (by omega), ← e1]
      refine Eq.round _ _ ⟨k + 1, rfl, by omega, E, hl6, rfl⟩ (by omega) (.cons rfl (.cons rfl (.cons rfl (.cons rfl (.nil)))))
    refine Sq.nil ?_
    refine Eq.next ?_
    refine Cq.els rfl ?_
    refine Cq.exit ?_
    refine Eq.past ?_
    refine Eq.past ?_
    refine Eq.hit ?_
    refine Eq.next ?_
    refine Cq.seq ?_
    refine Cq.region ?_
    refine Sq.move .plain rfl rfl ?_
    refine Sq.assign .plain rfl rfl ?_
    refine Sq.nil ?_
    refine Eq.next ?_
    refine Cq.ret ?_
    refine Eq.ret1 rfl rfl ?_
    exact ⟨by first | rw [fmtAl_bad (by omega)] | rw [fmtAl_zero (by omega)] | rw [fmtAl_good (by omega) (by omega) (k := k.toNat) (by omega)], E⟩
  refine Sq.notF .plain rfl rfl ?_
  refine Sq.nil ?_
  refine Eq.next ?_
  refine Cq.thn rfl ?_
  refine Cq.seq ?_
  refine Cq.region ?_
  refine Sq.assign .plain rfl rfl ?_
  refine Sq.nil ?_
  refine Eq.next ?_
  refine Cq.ret ?_
  refine Eq.pastRet ?_
  refine Eq.ret1 rfl rfl ?_
  exact ⟨by first | rw [fmtAl_bad (by omega)] | rw [fmtAl_zero (by omega)] | rw [fmtAl_good (by omega) (by omega) (k := k.toNat) (by omega)], E⟩
set_option maxRecDepth 100000 in
theorem parseAl_c (s : ByteArray) (w0 : World) : Ret Try.prog 37 #[Value.string s] w0 (fun v w => (∃ n ok, v = .tuple #[.int .i64 n, .bool ok] ∧ 0 ≤ n ∧ n ≤ 63) ∧ Ext w0 w) := by
  have E := Ext.refl w0
  refine Ret.of (args := [Value.string s]) Try.func37 rfl rfl rfl ?_
  rintro _ rfl
  show Cq _ _ _ _ [(0, Value.string s)] _
  refine Cq.seq ?_
  refine Cq.region ?_
  refine Sq.assign .plain rfl rfl ?_
  refine Sq.assign .plain rfl rfl ?_
  refine Sq.nil ?_
  refine Eq.next ?_
  refine Cq.seq ?_
  refine Cq.seq ?_
  refine Cq.region ?_
  refine Sq.assign .plain rfl rfl ?_
  refine Sq.nil ?_
  refine Eq.next ?_
  refine Cq.block ?_
  refine Cq.loop (fun nn w ls => ∃ (k : Int), ls = [(0, Value.string s), (4, Value.int .i64 k)] ∧ (0 ≤ k ∧ k ≤ 64) ∧ Ext w0 w ∧ nn = (64 - k).toNat) _ _ ⟨0, rfl, by omega, E, rfl⟩ (.cons rfl (.cons rfl (.nil))) ?_
  rintro nn wl1 ls ⟨k, rfl, hk, E, rfl⟩
  have hs1 := Below.size E
  refine Cq.seq ?_
  refine Cq.seq ?_
  refine Cq.region ?_
  refine Sq.move .plain rfl rfl ?_
  refine Sq.leq .plain rfl rfl rfl ?_
  refine Sq.part (fun c2 => ?_) (fun c2 => ?_)
  · refine Sq.nil ?_
    refine Eq.next ?_
    refine Cq.thn rfl ?_
    refine Cq.skip ?_
    refine Eq.next ?_
    refine Cq.seq ?_
    refine Cq.block ?_
    refine Cq.seq ?_
    refine Cq.region ?_
    refine Sq.move .plain rfl rfl ?_
    refine Sq.call fn42 .plain rfl rfl (fmtAl_c k _) ?_
    rintro _ w4 ⟨rfl, e5⟩
    have hs6 := Below.size E
    have hs7 := Below.size e5
    replace E := E.trans e5
    refine Sq.move .plain rfl rfl ?_
    refine Sq.eqlS .plain rfl rfl rfl ?_
    refine Sq.part (fun c8 => ?_) (fun c8 => ?_)
    · refine Sq.nil ?_
      refine Eq.next ?_
      refine Cq.thn rfl ?_
      refine Cq.seq ?_
      refine Cq.region ?_
      refine Sq.move .plain rfl rfl ?_
      refine Sq.assign .plain rfl rfl ?_
      refine Sq.assign .plain rfl rfl ?_
      refine Sq.nil ?_
      refine Eq.next ?_
      refine Cq.ret ?_
      refine Eq.outRet ?_
      refine Eq.pastRet ?_
      refine Eq.pastRet ?_
      refine Eq.outRet ?_
      refine Eq.pastRet ?_
      refine Eq.ret2 rfl rfl rfl ?_
      exact ⟨⟨_, _, rfl, by omega⟩, E⟩
    refine Sq.nil ?_
    refine Eq.next ?_
    refine Cq.els rfl ?_
    refine Cq.skip ?_
    refine Eq.end ?_
    refine Eq.next ?_
    refine Cq.region ?_
    refine Sq.move .plain rfl rfl ?_
    refine Sq.add .plain rfl rfl rfl (by omega) ?_
    refine Sq.assign .plain rfl rfl ?_
    refine Sq.nil ?_
    refine Eq.round _ _ ⟨k + 1, rfl, by omega, E, rfl⟩ (by omega) (.cons rfl (.cons rfl (.nil)))
  refine Sq.nil ?_
  refine Eq.next ?_
  refine Cq.els rfl ?_
  refine Cq.exit ?_
  refine Eq.past ?_
  refine Eq.past ?_
  refine Eq.hit ?_
  refine Eq.next ?_
  refine Cq.seq ?_
  refine Cq.region ?_
  refine Sq.assign .plain rfl rfl ?_
  refine Sq.assign .plain rfl rfl ?_
  refine Sq.nil ?_
  refine Eq.next ?_
  refine Cq.ret ?_
  refine Eq.ret2 rfl rfl rfl ?_
  exact ⟨⟨_, _, rfl, by omega⟩, E⟩
set_option maxRecDepth 100000 in
theorem dec_c (n : Int) (hn : 0 ≤ n ∧ n ≤ 1000000) (w0 : World) : Ret Try.prog 44 #[Value.int .i64 n] w0 (fun v w => (∃ s, v = .string s ∧ (s.size : Int) ≤ n + 1) ∧ Ext w0 w) := by
  have E := Ext.refl w0
  refine Ret.of (args := [Value.int .i64 n]) Try.func44 rfl rfl rfl ?_
  rintro _ rfl
  show Cq _ _ _ _ [(0, Value.int .i64 n)] _
  refine Cq.seq ?_
  refine Cq.region ?_
  refine Sq.assign .plain rfl rfl ?_
  refine Sq.nil ?_
  refine Eq.next ?_
  refine Cq.seq ?_
  refine Cq.seq ?_
  refine Cq.region ?_
  refine Sq.move .plain rfl rfl ?_
  refine Sq.lss .plain rfl rfl rfl ?_
  refine Sq.isF (by omega) ?_
  refine Sq.nil ?_
  refine Eq.next ?_
  refine Cq.els rfl ?_
  refine Cq.skip ?_
  refine Eq.next ?_
  refine Cq.seq ?_
  refine Cq.seq ?_
  refine Cq.region ?_
  refine Sq.move .plain rfl rfl ?_
  refine Sq.lss .plain rfl rfl rfl ?_
  refine Sq.isF (by omega) ?_
  refine Sq.nil ?_
  refine Eq.next ?_
  refine Cq.els rfl ?_
  refine Cq.skip ?_
  refine Eq.next ?_
  refine Cq.seq ?_
  refine Cq.region ?_
  refine Sq.assign .plain rfl rfl ?_
  refine Sq.nil ?_
  refine Eq.next ?_
  refine Cq.seq ?_
  refine Cq.block ?_
  refine Cq.loop (fun nn w ls => ∃ (m : Int), ∃ (t : ByteArray), ls = [(0, Value.int .i64 m), (3, Value.string t)] ∧ (0 ≤ m ∧ m ≤ n ∧ (t.size : Int) + m ≤ n) ∧ Ext w0 w ∧ nn = m.toNat) _ _ ⟨_, _, rfl, ⟨by omega, by omega, by show ((0 : Nat) : Int) + n ≤ n; omega⟩, E, rfl⟩ (.cons rfl (.cons rfl (.nil))) ?_
  rintro nn wl1 ls ⟨m, t, rfl, hm, E, rfl⟩
  have hs1 := Below.size E
  refine Cq.seq ?_
  refine Cq.seq ?_
  refine Cq.region ?_
  refine Sq.move .plain rfl rfl ?_
  refine Sq.gtr .plain rfl rfl rfl ?_
  refine Sq.part (fun c2 => ?_) (fun c2 => ?_)
  · refine Sq.nil ?_
    refine Eq.next ?_
    refine Cq.thn rfl ?_
    refine Cq.skip ?_
    refine Eq.next ?_
    refine Cq.block ?_
    refine Cq.seq ?_
    refine Cq.region ?_
    refine Sq.move .plain rfl rfl ?_
    refine Sq.rem .plain rfl rfl rfl (by omega) ?_
    refine Sq.add .plain rfl rfl rfl (by omega) ?_
    refine Sq.conv8 conv3_5 .plain rfl rfl (by omega) ?_
    refine Sq.lit sl22 rfl rfl .plain rfl rfl (one_cons rfl one_nil) (fun b3 w4 e5 hlo6 ho7 _ => ?_)
    replace ho7 := ho7 wl1.heap.size (Nat.le_refl _)
    have hs9 := Below.size e5
    replace E := E.trans e5
    refine Sq.val .plain rfl rfl (Still.text1 und22 und8_22 und9 ho7 (by omega) rfl) ?_
    refine Sq.move .plain rfl rfl ?_
    refine Sq.cat .plain rfl rfl rfl (by show (1 + t.size : Nat) ≤ _; omega) ?_
    refine Sq.assign .plain rfl rfl ?_
    refine Sq.nil ?_
    refine Eq.next ?_
    refine Cq.region ?_
    refine Sq.move .plain rfl rfl ?_
    refine Sq.quo .plain rfl rfl rfl (by omega) ?_
    refine Sq.assign .plain rfl rfl ?_
    refine Sq.nil ?_
    refine Eq.end ?_
    refine Eq.round _ _ ⟨_, _, rfl, by rw [size_cat]; refine ⟨by omega, by omega, ?_⟩; show ((1 + t.size : Nat) : Int) + _ ≤ _; omega, E, rfl⟩ (by omega) (.cons rfl (.cons rfl (.nil)))
  refine Sq.nil ?_
  refine Eq.next ?_
  refine Cq.els rfl ?_
  refine Cq.exit ?_
  refine Eq.past ?_
  refine Eq.past ?_
  refine Eq.hit ?_
  refine Eq.next ?_
  refine Cq.seq ?_
  refine Cq.region ?_
  refine Sq.move .plain rfl rfl ?_
  refine Sq.add .plain rfl rfl rfl (by omega) ?_
  refine Sq.conv8 conv3_5 .plain rfl rfl (by omega) ?_
  refine Sq.lit sl22 rfl rfl .plain rfl rfl (one_cons rfl one_nil) (fun b10 w11 e12 hlo13 ho14 _ => ?_)
  replace ho14 := ho14 wl1.heap.size (Nat.le_refl _)
  have hs16 := Below.size e12
  replace E := E.trans e12
  refine Sq.val .plain rfl rfl (Still.text1 und22 und8_22 und9 ho14 (by omega) rfl) ?_
  refine Sq.move .plain rfl rfl ?_
  refine Sq.cat .plain rfl rfl rfl (by show (1 + t.size : Nat) ≤ _; omega) ?_
  refine Sq.assign .plain rfl rfl ?_
  refine Sq.nil ?_
  refine Eq.next ?_
  refine Cq.ret ?_
  refine Eq.ret1 rfl rfl ?_
  exact ⟨⟨_, rfl, by rw [size_cat]; show ((1 + t.size : Nat) : Int) ≤ _; omega⟩, E⟩
set_option maxRecDepth 100000 in
theorem cut_c (s : ByteArray) (c : Int) (hs : s.size ≤ 1000000) (w0 : World) : Ret Try.prog 36 #[Value.string s, Value.int .u8 c] w0 (fun v w => (∃ xs : List ByteArray, Own w w0.heap.size 9 v (xs.map Value.string) ∧ (1 ≤ xs.length ∧ xs.length ≤ s.size + 1) ∧ ∀ x ∈ xs, x.size ≤ s.size) ∧ Ext w0 w) := by
  have E := Ext.refl w0
  refine Ret.of (args := [Value.string s, Value.int .u8 c]) Try.func36 rfl rfl rfl ?_
  rintro _ rfl
  show Cq _ _ _ _ [(0, Value.string s), (1, Value.int .u8 c)] _
  refine Cq.seq ?_
  refine Cq.region ?_
  refine Sq.assign .plain rfl rfl ?_
  refine Sq.nil ?_
  refine Eq.next ?_
  refine Cq.seq ?_
  refine Cq.region ?_
  refine Sq.lit sl60 rfl rfl .plain rfl rfl one_nil (fun b1 w2 e3 hlo4 ho5 _ => ?_)
  replace ho5 := ho5 w0.heap.size (Nat.le_refl _)
  have hs7 := Below.size e3
  replace E := E.trans e3
  refine Sq.assign .plain rfl rfl ?_
  refine Sq.nil ?_
  refine Eq.next ?_
  refine Cq.seq ?_
  refine Cq.region ?_
  refine Sq.assign .plain rfl rfl ?_
  refine Sq.nil ?_
  refine Eq.next ?_
  refine Cq.seq ?_
  refine Cq.seq ?_
  refine Cq.region ?_
  refine Sq.assign .plain rfl rfl ?_
  refine Sq.nil ?_
  refine Eq.next ?_
  refine Cq.block ?_
  refine Cq.loop (fun nn w ls => ∃ (i : Int), ∃ (q : Int), ∃ (v : Value), ∃ (xs : List ByteArray), ls = [(0, Value.string s), (1, Value.int .u8 c), (5, v), (6, Value.int .i64 q), (7, Value.int .i64 i)] ∧ (0 ≤ q ∧ q ≤ i ∧ i ≤ s.size + 1) ∧ Own w w0.heap.size 9 v (xs.map Value.string) ∧ ((xs.length : Int) ≤ i ∧ (i = s.size + 1 → 1 ≤ xs.length) ∧ ∀ x ∈ xs, x.size ≤ s.size) ∧ Ext w0 w ∧ nn = ((s.size : Int) + 1 - i).toNat) _ _ ⟨0, 0, _, [], rfl, by omega, Own.mono ho5 (by omega), ⟨by simp, by intro h; omega, by simp⟩, E, rfl⟩ (.cons rfl (.cons rfl (.cons rfl (.cons rfl (.cons rfl (.nil)))))) ?_
  rintro nn wl1 ls ⟨i, q, v, xs, rfl, hi, ho, hl, E, rfl⟩
  have hs8 := Below.size E
  refine Cq.seq ?_
  refine Cq.seq ?_
  refine Cq.region ?_
  refine Sq.move .plain rfl rfl ?_
  refine Sq.move .plain rfl rfl ?_
  refine Sq.lenStr .plain rfl und9 rfl ?_
  refine Sq.leq .plain rfl rfl rfl ?_
  refine Sq.part (fun c9 => ?_) (fun c9 => ?_)
  · refine Sq.nil ?_
    refine Eq.next ?_
    refine Cq.thn rfl ?_
    refine Cq.skip ?_
    refine Eq.next ?_
    refine Cq.seq ?_
    refine Cq.block ?_
    refine Cq.seq ?_
    refine Cq.region ?_
    refine Sq.move .plain rfl rfl ?_
    refine Sq.move .plain rfl rfl ?_
    refine Sq.lenStr .plain rfl und9 rfl ?_
    refine Sq.eql .plain rfl rfl rfl ?_
    refine Sq.part (fun c10 => ?_) (fun c10 => ?_)
    · refine Sq.move .plain rfl rfl ?_
      refine Sq.off rfl rfl rfl rfl rfl rfl ?_
      refine Sq.off rfl rfl rfl rfl rfl rfl ?_
      refine Sq.off rfl rfl rfl rfl rfl rfl ?_
      refine Sq.off rfl rfl rfl rfl rfl rfl ?_
      refine Sq.off rfl rfl rfl rfl rfl rfl ?_
      refine Sq.pickT .plain rfl rfl rfl ?_
      refine Sq.nil ?_
      refine Eq.next ?_
      refine Cq.thn rfl ?_
      refine Cq.seq ?_
      refine Cq.region ?_
      refine Sq.move .plain rfl rfl ?_
      refine Sq.move .plain rfl rfl ?_
      refine Sq.move .plain rfl rfl ?_
      refine Sq.move .plain rfl rfl ?_
      refine Sq.val .plain rfl rfl (Still.cutLH und9 rfl rfl rfl (by omega)) ?_
      refine Sq.app1 sl60 ho (by omega) (by simp; omega) .plain rfl rfl rfl rfl rfl rfl rfl (fun v11 w12 ho14 g13 _ => ?_)
      have hs15 := g13.size
      replace E := E.owned ho g13 (by omega)
      refine Sq.assign .plain rfl rfl ?_
      refine Sq.nil ?_
      refine Eq.next ?_
      refine Cq.region ?_
      refine Sq.move .plain rfl rfl ?_
      refine Sq.add .plain rfl rfl rfl (by omega) ?_
      refine Sq.assign .plain rfl rfl ?_
      refine Sq.nil ?_
      refine Eq.end ?_
      refine Eq.next ?_
      refine Cq.region ?_
      refine Sq.move .plain rfl rfl ?_
      refine Sq.add .plain rfl rfl rfl (by omega) ?_
      refine Sq.assign .plain rfl rfl ?_
      refine Sq.nil ?_
      refine Eq.round _ _ ⟨i + 1, _, _, _, rfl, by omega, Own.snocS ho14, ⟨by simp; omega, by intro h; simp, all_app hl.2.2 (size_cut s)⟩, E, rfl⟩ (by omega) (.cons rfl (.cons rfl (.cons rfl (.cons rfl (.cons rfl (.nil))))))
    refine Sq.move .plain rfl rfl ?_
    refine Sq.move (.met rfl rfl rfl) rfl rfl ?_
    refine Sq.move (.met rfl rfl rfl) rfl rfl ?_
    refine Sq.idxStr (.met rfl rfl rfl) rfl und9 rfl rfl (by omega) (str_at (by omega)) ?_
    refine Sq.move (.met rfl rfl rfl) rfl rfl ?_
    refine Sq.eql (.met rfl rfl rfl) rfl rfl rfl ?_
    refine Sq.part (fun c17 => ?_) (fun c17 => ?_)
    · refine Sq.pickF .plain rfl rfl rfl ?_
      refine Sq.nil ?_
      refine Eq.next ?_
      refine Cq.thn rfl ?_
      refine Cq.seq ?_
      refine Cq.region ?_
      refine Sq.move .plain rfl rfl ?_
      refine Sq.move .plain rfl rfl ?_
      refine Sq.move .plain rfl rfl ?_
      refine Sq.move .plain rfl rfl ?_
      refine Sq.val .plain rfl rfl (Still.cutLH und9 rfl rfl rfl (by omega)) ?_
      refine Sq.app1 sl60 ho (by omega) (by simp; omega) .plain rfl rfl rfl rfl rfl rfl rfl (fun v18 w19 ho21 g20 _ => ?_)
      have hs22 := g20.size
      replace E := E.owned ho g20 (by omega)
      refine Sq.assign .plain rfl rfl ?_
      refine Sq.nil ?_
      refine Eq.next ?_
      refine Cq.region ?_
      refine Sq.move .plain rfl rfl ?_
      refine Sq.add .plain rfl rfl rfl (by omega) ?_
      refine Sq.assign .plain rfl rfl ?_
      refine Sq.nil ?_
      refine Eq.end ?_
      refine Eq.next ?_
      refine Cq.region ?_
      refine Sq.move .plain rfl rfl ?_
      refine Sq.add .plain rfl rfl rfl (by omega) ?_
      refine Sq.assign .plain rfl rfl ?_
      refine Sq.nil ?_
      refine Eq.round _ _ ⟨i + 1, _, _, _, rfl, by omega, Own.snocS ho21, ⟨by simp; omega, by intro h; simp, all_app hl.2.2 (size_cut s)⟩, E, rfl⟩ (by omega) (.cons rfl (.cons rfl (.cons rfl (.cons rfl (.cons rfl (.nil))))))
    refine Sq.pickF .plain rfl rfl rfl ?_
    refine Sq.nil ?_
    refine Eq.next ?_
    refine Cq.els rfl ?_
    refine Cq.skip ?_
    refine Eq.end ?_
    refine Eq.next ?_
    refine Cq.region ?_
    refine Sq.move .plain rfl rfl ?_
    refine Sq.add .plain rfl rfl rfl (by omega) ?_
    refine Sq.assign .plain rfl rfl ?_
    refine Sq.nil ?_
    refine Eq.round _ _ ⟨i + 1, _, _, _, rfl, by omega, ho, ⟨by omega, by intro h; omega, hl.2.2⟩, E, rfl⟩ (by omega) (.cons rfl (.cons rfl (.cons rfl (.cons rfl (.cons rfl (.nil))))))
  refine Sq.nil ?_
  refine Eq.next ?_
  refine Cq.els rfl ?_
  refine Cq.exit ?_
  refine Eq.past ?_
  refine Eq.past ?_
  refine Eq.hit ?_
  refine Eq.next ?_
  refine Cq.seq ?_
  refine Cq.region ?_
  refine Sq.move .plain rfl rfl ?_
  refine Sq.assign .plain rfl rfl ?_
  refine Sq.nil ?_
  refine Eq.next ?_
  refine Cq.ret ?_
  refine Eq.ret1 rfl rfl ?_
  exact ⟨⟨xs, ho, by omega, hl.2.2⟩, E⟩
set_option maxRecDepth 100000 in
theorem num10_c (s : ByteArray) (hs : s.size ≤ 1000000) (w0 : World) : Ret Try.prog 43 #[Value.string s] w0 (fun v w => (∃ n ok, v = .tuple #[.int .i64 n, .bool ok] ∧ -1000000000000000000 ≤ n ∧ n ≤ 1000000000000000000) ∧ w0 = w) := by
  refine Ret.of (args := [Value.string s]) Try.func43 rfl rfl rfl ?_
  rintro _ rfl
  show Cq _ _ _ _ [(0, Value.string s)] _
  refine Cq.seq ?_
  refine Cq.region ?_
  refine Sq.assign .plain rfl rfl ?_
  refine Sq.assign .plain rfl rfl ?_
  refine Sq.nil ?_
  refine Eq.next ?_
  refine Cq.seq ?_
  refine Cq.region ?_
  refine Sq.move .plain rfl rfl ?_
  refine Sq.lenStr .plain rfl und9 rfl ?_
  refine Sq.gtr .plain rfl rfl rfl ?_
  refine Sq.part (fun c1 => ?_) (fun c1 => ?_)
  · refine Sq.move .plain rfl rfl ?_
    refine Sq.move (.met rfl rfl rfl) rfl rfl ?_
    refine Sq.idxStr (.met rfl rfl rfl) rfl und9 rfl rfl (by omega) (str_at (by omega)) ?_
    refine Sq.eql (.met rfl rfl rfl) rfl rfl rfl ?_
    refine Sq.part (fun c3 => ?_) (fun c3 => ?_)
    · refine Sq.pickT .plain rfl rfl rfl ?_
      refine Sq.assign .plain rfl rfl ?_
      refine Sq.nil ?_
      refine Eq.next ?_
      refine Cq.seq ?_
      refine Cq.seq ?_
      refine Cq.region ?_
      refine Sq.move .plain rfl rfl ?_
      refine Sq.nil ?_
      refine Eq.next ?_
      refine Cq.thn rfl ?_
      refine Cq.region ?_
      refine Sq.move .plain rfl rfl ?_
      refine Sq.val .plain rfl rfl (Still.cutL und9 rfl rfl (by omega)) ?_
      refine Sq.assign .plain rfl rfl ?_
      refine Sq.nil ?_
      refine Eq.next ?_
      refine Cq.seq ?_
      refine Cq.seq ?_
      refine Cq.region ?_
      have hcut : (((s.extract (1 : Int).toNat s.size)).size : Int) = s.size - 1 := by rw [ByteArray.size_extract]; omega
      refine Sq.move .plain rfl rfl ?_
      refine Sq.lenStr .plain rfl und9 rfl ?_
      refine Sq.eql .plain rfl rfl rfl ?_
      refine Sq.part (fun c4 => ?_) (fun c4 => ?_)
      · refine Sq.move .plain rfl rfl ?_
        refine Sq.off rfl rfl rfl rfl rfl rfl ?_
        refine Sq.off rfl rfl rfl rfl rfl rfl ?_
        refine Sq.off rfl rfl rfl rfl rfl rfl ?_
        refine Sq.pickT .plain rfl rfl rfl ?_
        refine Sq.move .plain rfl rfl ?_
        refine Sq.off rfl rfl rfl rfl rfl rfl ?_
        refine Sq.off rfl rfl rfl rfl rfl rfl ?_
        refine Sq.off rfl rfl rfl rfl rfl rfl ?_
        refine Sq.off rfl rfl rfl rfl rfl rfl ?_
        refine Sq.offU rfl rfl rfl rfl rfl rfl ?_
        refine Sq.offU rfl rfl rfl rfl rfl rfl ?_
        refine Sq.offU rfl rfl rfl rfl rfl rfl ?_
        refine Sq.offU rfl rfl rfl rfl rfl rfl ?_
        refine Sq.offU rfl rfl rfl rfl rfl rfl ?_
        refine Sq.offU rfl rfl rfl rfl rfl rfl ?_
        refine Sq.off rfl rfl rfl rfl rfl rfl ?_
        refine Sq.pickT .plain rfl rfl rfl ?_
        refine Sq.nil ?_
        refine Eq.next ?_
        refine Cq.thn rfl ?_
        refine Cq.seq ?_
        refine Cq.region ?_
        refine Sq.assign .plain rfl rfl ?_
        refine Sq.assign .plain rfl rfl ?_
        refine Sq.nil ?_
        refine Eq.next ?_
        refine Cq.ret ?_
        refine Eq.pastRet ?_
        refine Eq.ret2 rfl rfl rfl ?_
        exact ⟨⟨_, _, rfl, by omega⟩, rfl⟩
      refine Sq.move .plain rfl rfl ?_
      refine Sq.move (.met rfl rfl rfl) rfl rfl ?_
      refine Sq.lenStr (.met rfl rfl rfl) rfl und9 rfl ?_
      refine Sq.gtr (.met rfl rfl rfl) rfl rfl rfl ?_
      refine Sq.part (fun c5 => ?_) (fun c5 => ?_)
      · refine Sq.pickF .plain rfl rfl rfl ?_
        refine Sq.move .plain rfl rfl ?_
        refine Sq.off rfl rfl rfl rfl rfl rfl ?_
        refine Sq.off rfl rfl rfl rfl rfl rfl ?_
        refine Sq.off rfl rfl rfl rfl rfl rfl ?_
        refine Sq.off rfl rfl rfl rfl rfl rfl ?_
        refine Sq.offU rfl rfl rfl rfl rfl rfl ?_
        refine Sq.offU rfl rfl rfl rfl rfl rfl ?_
        refine Sq.offU rfl rfl rfl rfl rfl rfl ?_
        refine Sq.offU rfl rfl rfl rfl rfl rfl ?_
        refine Sq.offU rfl rfl rfl rfl rfl rfl ?_
        refine Sq.offU rfl rfl rfl rfl rfl rfl ?_
        refine Sq.off rfl rfl rfl rfl rfl rfl ?_
        refine Sq.pickT .plain rfl rfl rfl ?_
        refine Sq.nil ?_
        refine Eq.next ?_
        refine Cq.thn rfl ?_
        refine Cq.seq ?_
        refine Cq.region ?_
        refine Sq.assign .plain rfl rfl ?_
        refine Sq.assign .plain rfl rfl ?_
        refine Sq.nil ?_
        refine Eq.next ?_
        refine Cq.ret ?_
        refine Eq.pastRet ?_
        refine Eq.ret2 rfl rfl rfl ?_
        exact ⟨⟨_, _, rfl, by omega⟩, rfl⟩
      refine Sq.pickF .plain rfl rfl rfl ?_
      refine Sq.move .plain rfl rfl ?_
      refine Sq.move (.met rfl rfl rfl) rfl rfl ?_
      refine Sq.idxStr (.met rfl rfl rfl) rfl und9 rfl rfl (by omega) (str_at (by omega)) ?_
      refine Sq.eql (.met rfl rfl rfl) rfl rfl rfl ?_
      refine Sq.part (fun c7 => ?_) (fun c7 => ?_)
      · refine Sq.move (.met rfl rfl rfl) rfl rfl ?_
        refine Sq.move (.met rfl rfl rfl) rfl rfl ?_
        refine Sq.lenStr (.met rfl rfl rfl) rfl und9 rfl ?_
        refine Sq.gtr (.met rfl rfl rfl) rfl rfl rfl ?_
        refine Sq.part (fun c8 => ?_) (fun c8 => ?_)
        · refine Sq.move (.met rfl rfl rfl) rfl rfl ?_
          refine Sq.off rfl rfl rfl rfl rfl rfl ?_
          refine Sq.pickT (.met rfl rfl rfl) rfl rfl rfl ?_
          refine Sq.pickT (.met rfl rfl rfl) rfl rfl rfl ?_
          refine Sq.pickF .plain rfl rfl rfl ?_
          refine Sq.nil ?_
          refine Eq.next ?_
          refine Cq.thn rfl ?_
          refine Cq.seq ?_
          refine Cq.region ?_
          refine Sq.assign .plain rfl rfl ?_
          refine Sq.assign .plain rfl rfl ?_
          refine Sq.nil ?_
          refine Eq.next ?_
          refine Cq.ret ?_
          refine Eq.pastRet ?_
          refine Eq.ret2 rfl rfl rfl ?_
          exact ⟨⟨_, _, rfl, by omega⟩, rfl⟩
        refine Sq.move (.met rfl rfl rfl) rfl rfl ?_
        refine Sq.move (.met rfl rfl rfl) rfl rfl ?_
        refine Sq.pickF (.met rfl rfl rfl) rfl rfl rfl ?_
        refine Sq.pickT (.met rfl rfl rfl) rfl rfl rfl ?_
        refine Sq.pickF .plain rfl rfl rfl ?_
        refine Sq.nil ?_
        refine Eq.next ?_
        refine Cq.thn rfl ?_
        refine Cq.seq ?_
        refine Cq.region ?_
        refine Sq.assign .plain rfl rfl ?_
        refine Sq.assign .plain rfl rfl ?_
        refine Sq.nil ?_
        refine Eq.next ?_
        refine Cq.ret ?_
        refine Eq.pastRet ?_
        refine Eq.ret2 rfl rfl rfl ?_
        exact ⟨⟨_, _, rfl, by omega⟩, rfl⟩
      refine Sq.move (.met rfl rfl rfl) rfl rfl ?_
      refine Sq.off rfl rfl rfl rfl rfl rfl ?_
      refine Sq.off rfl rfl rfl rfl rfl rfl ?_
      refine Sq.off rfl rfl rfl rfl rfl rfl ?_
      refine Sq.off rfl rfl rfl rfl rfl rfl ?_
      refine Sq.offU rfl rfl rfl rfl rfl rfl ?_
      refine Sq.off rfl rfl rfl rfl rfl rfl ?_
      refine Sq.pickF (.met rfl rfl rfl) rfl rfl rfl ?_
      refine Sq.pickF .plain rfl rfl rfl ?_
      refine Sq.nil ?_
      refine Eq.next ?_
      refine Cq.els rfl ?_
      refine Cq.skip ?_
      refine Eq.next ?_
      refine Cq.seq ?_
      refine Cq.region ?_
      refine Sq.assign .plain rfl rfl ?_
      refine Sq.nil ?_
      refine Eq.next ?_
      refine Cq.seq ?_
      refine Cq.seq ?_
      refine Cq.region ?_
      refine Sq.assign .plain rfl rfl ?_
      refine Sq.nil ?_
      refine Eq.next ?_
      refine Cq.block ?_
      refine Cq.loop (fun nn w ls => ∃ (k : Int), ∃ (n : Int), ls = [(0, Value.string ((s.extract (1 : Int).toNat s.size))), (4, Value.bool true), (5, Value.int .i64 n), (6, Value.int .i64 k)] ∧ w0 = w ∧ (0 ≤ k ∧ k ≤ ((s.extract (1 : Int).toNat s.size)).size) ∧ (((s.extract (1 : Int).toNat s.size)).size ≤ 17) ∧ (0 ≤ n ∧ n < 10 ^ k.toNat) ∧ nn = ((((s.extract (1 : Int).toNat s.size)).size : Int) - k).toNat) _ _ ⟨0, 0, rfl, rfl, by omega, by omega, by decide, rfl⟩ (.cons rfl (.cons rfl (.cons rfl (.cons rfl (.nil))))) ?_
      rintro n1 w ls ⟨k, n, rfl, rfl, hk, hz, hn, rfl⟩
      have hp := pow_small (k := k.toNat) (by omega)
      refine Cq.seq ?_
      refine Cq.seq ?_
      refine Cq.region ?_
      refine Sq.move .plain rfl rfl ?_
      refine Sq.move .plain rfl rfl ?_
      refine Sq.lenStr .plain rfl und9 rfl ?_
      refine Sq.lss .plain rfl rfl rfl ?_
      refine Sq.part (fun c9 => ?_) (fun c9 => ?_)
      · refine Sq.nil ?_
        refine Eq.next ?_
        refine Cq.thn rfl ?_
        refine Cq.skip ?_
        refine Eq.next ?_
        refine Cq.seq ?_
        refine Cq.block ?_
        refine Cq.seq ?_
        refine Cq.seq ?_
        refine Cq.region ?_
        refine Sq.move .plain rfl rfl ?_
        refine Sq.move .plain rfl rfl ?_
        refine Sq.idxStr .plain rfl und9 rfl rfl (by omega) (str_at (by omega)) ?_
        refine Sq.lss .plain rfl rfl rfl ?_
        refine Sq.part (fun c11 => ?_) (fun c11 => ?_)
        · refine Sq.move .plain rfl rfl ?_
          refine Sq.off rfl rfl rfl rfl rfl rfl ?_
          refine Sq.off rfl rfl rfl rfl rfl rfl ?_
          refine Sq.off rfl rfl rfl rfl rfl rfl ?_
          refine Sq.off rfl rfl rfl rfl rfl rfl ?_
          refine Sq.pickT .plain rfl rfl rfl ?_
          refine Sq.nil ?_
          refine Eq.next ?_
          refine Cq.thn rfl ?_
          refine Cq.seq ?_
          refine Cq.region ?_
          refine Sq.assign .plain rfl rfl ?_
          refine Sq.assign .plain rfl rfl ?_
          refine Sq.nil ?_
          refine Eq.next ?_
          refine Cq.ret ?_
          refine Eq.pastRet ?_
          refine Eq.outRet ?_
          refine Eq.pastRet ?_
          refine Eq.pastRet ?_
          refine Eq.outRet ?_
          refine Eq.pastRet ?_
          refine Eq.ret2 rfl rfl rfl ?_
          exact ⟨⟨_, _, rfl, by omega⟩, rfl⟩
        refine Sq.move .plain rfl rfl ?_
        refine Sq.move (.met rfl rfl rfl) rfl rfl ?_
        refine Sq.move (.met rfl rfl rfl) rfl rfl ?_
        refine Sq.idxStr (.met rfl rfl rfl) rfl und9 rfl rfl (by omega) (str_at (by omega)) ?_
        refine Sq.gtr (.met rfl rfl rfl) rfl rfl rfl ?_
        refine Sq.part (fun c13 => ?_) (fun c13 => ?_)
        · refine Sq.pickF .plain rfl rfl rfl ?_
          refine Sq.nil ?_
          refine Eq.next ?_
          refine Cq.thn rfl ?_
          refine Cq.seq ?_
          refine Cq.region ?_
          refine Sq.assign .plain rfl rfl ?_
          refine Sq.assign .plain rfl rfl ?_
          refine Sq.nil ?_
          refine Eq.next ?_
          refine Cq.ret ?_
          refine Eq.pastRet ?_
          refine Eq.outRet ?_
          refine Eq.pastRet ?_
          refine Eq.pastRet ?_
          refine Eq.outRet ?_
          refine Eq.pastRet ?_
          refine Eq.ret2 rfl rfl rfl ?_
          exact ⟨⟨_, _, rfl, by omega⟩, rfl⟩
        refine Sq.pickF .plain rfl rfl rfl ?_
        refine Sq.nil ?_
        refine Eq.next ?_
        refine Cq.els rfl ?_
        refine Cq.skip ?_
        refine Eq.next ?_
        refine Cq.region ?_
        refine Sq.move .plain rfl rfl ?_
        refine Sq.mul .plain rfl rfl rfl (by omega) ?_
        refine Sq.move .plain rfl rfl ?_
        refine Sq.move .plain rfl rfl ?_
        refine Sq.idxStr .plain rfl und9 rfl rfl (by omega) (str_at (by omega)) ?_
        refine Sq.sub8 .plain rfl rfl rfl (by omega) ?_
        refine Sq.conv conv5_3 .plain rfl rfl (by omega) ?_
        refine Sq.add .plain rfl rfl rfl (by omega) ?_
        refine Sq.assign .plain rfl rfl ?_
        refine Sq.nil ?_
        refine Eq.end ?_
        refine Eq.next ?_
        refine Cq.region ?_
        refine Sq.move .plain rfl rfl ?_
        refine Sq.add .plain rfl rfl rfl (by omega) ?_
        refine Sq.assign .plain rfl rfl ?_
        refine Sq.nil ?_
        have e1 := toNat_succ hk.1
        refine Eq.round _ _ ⟨k + 1, _, rfl, rfl, by omega, hz, by rw [e1]; exact pow_step hn (by omega), rfl⟩ (by omega) (.cons rfl (.cons rfl (.cons rfl (.cons rfl (.nil)))))
      refine Sq.nil ?_
      refine Eq.next ?_
      refine Cq.els rfl ?_
      refine Cq.exit ?_
      refine Eq.past ?_
      refine Eq.past ?_
      refine Eq.hit ?_
      refine Eq.next ?_
      refine Cq.seq ?_
      refine Cq.seq ?_
      refine Cq.region ?_
      refine Sq.move .plain rfl rfl ?_
      refine Sq.nil ?_
      refine Eq.next ?_
      refine Cq.thn rfl ?_
      refine Cq.region ?_
      refine Sq.move .plain rfl rfl ?_
      refine Sq.neg .plain rfl rfl (by omega) ?_
      refine Sq.assign .plain rfl rfl ?_
      refine Sq.nil ?_
      refine Eq.next ?_
      refine Cq.seq ?_
      refine Cq.region ?_
      refine Sq.move .plain rfl rfl ?_
      refine Sq.assign .plain rfl rfl ?_
      refine Sq.assign .plain rfl rfl ?_
      refine Sq.nil ?_
      refine Eq.next ?_
      refine Cq.ret ?_
      refine Eq.ret2 rfl rfl rfl ?_
      exact ⟨⟨_, _, rfl, by omega⟩, rfl⟩
    refine Sq.pickT .plain rfl rfl rfl ?_
    refine Sq.assign .plain rfl rfl ?_
    refine Sq.nil ?_
    refine Eq.next ?_
    refine Cq.seq ?_
    refine Cq.seq ?_
    refine Cq.region ?_
    refine Sq.move .plain rfl rfl ?_
    refine Sq.nil ?_
    refine Eq.next ?_
    refine Cq.els rfl ?_
    refine Cq.skip ?_
    refine Eq.next ?_
    refine Cq.seq ?_
    refine Cq.seq ?_
    refine Cq.region ?_
    refine Sq.move .plain rfl rfl ?_
    refine Sq.lenStr .plain rfl und9 rfl ?_
    refine Sq.eql .plain rfl rfl rfl ?_
    refine Sq.part (fun c15 => ?_) (fun c15 => ?_)
    · refine Sq.move .plain rfl rfl ?_
      refine Sq.off rfl rfl rfl rfl rfl rfl ?_
      refine Sq.off rfl rfl rfl rfl rfl rfl ?_
      refine Sq.off rfl rfl rfl rfl rfl rfl ?_
      refine Sq.pickT .plain rfl rfl rfl ?_
      refine Sq.move .plain rfl rfl ?_
      refine Sq.off rfl rfl rfl rfl rfl rfl ?_
      refine Sq.off rfl rfl rfl rfl rfl rfl ?_
      refine Sq.off rfl rfl rfl rfl rfl rfl ?_
      refine Sq.off rfl rfl rfl rfl rfl rfl ?_
      refine Sq.offU rfl rfl rfl rfl rfl rfl ?_
      refine Sq.offU rfl rfl rfl rfl rfl rfl ?_
      refine Sq.offU rfl rfl rfl rfl rfl rfl ?_
      refine Sq.offU rfl rfl rfl rfl rfl rfl ?_
      refine Sq.offU rfl rfl rfl rfl rfl rfl ?_
      refine Sq.offU rfl rfl rfl rfl rfl rfl ?_
      refine Sq.off rfl rfl rfl rfl rfl rfl ?_
      refine Sq.pickT .plain rfl rfl rfl ?_
      refine Sq.nil ?_
      refine Eq.next ?_
      refine Cq.thn rfl ?_
      refine Cq.seq ?_
      refine Cq.region ?_
      refine Sq.assign .plain rfl rfl ?_
      refine Sq.assign .plain rfl rfl ?_
      refine Sq.nil ?_
      refine Eq.next ?_
      refine Cq.ret ?_
      refine Eq.pastRet ?_
      refine Eq.ret2 rfl rfl rfl ?_
      exact ⟨⟨_, _, rfl, by omega⟩, rfl⟩
    refine Sq.move .plain rfl rfl ?_
    refine Sq.move (.met rfl rfl rfl) rfl rfl ?_
    refine Sq.lenStr (.met rfl rfl rfl) rfl und9 rfl ?_
    refine Sq.gtr (.met rfl rfl rfl) rfl rfl rfl ?_
    refine Sq.part (fun c16 => ?_) (fun c16 => ?_)
    · refine Sq.pickF .plain rfl rfl rfl ?_
      refine Sq.move .plain rfl rfl ?_
      refine Sq.off rfl rfl rfl rfl rfl rfl ?_
      refine Sq.off rfl rfl rfl rfl rfl rfl ?_
      refine Sq.off rfl rfl rfl rfl rfl rfl ?_
      refine Sq.off rfl rfl rfl rfl rfl rfl ?_
      refine Sq.offU rfl rfl rfl rfl rfl rfl ?_
      refine Sq.offU rfl rfl rfl rfl rfl rfl ?_
      refine Sq.offU rfl rfl rfl rfl rfl rfl ?_
      refine Sq.offU rfl rfl rfl rfl rfl rfl ?_
      refine Sq.offU rfl rfl rfl rfl rfl rfl ?_
      refine Sq.offU rfl rfl rfl rfl rfl rfl ?_
      refine Sq.off rfl rfl rfl rfl rfl rfl ?_
      refine Sq.pickT .plain rfl rfl rfl ?_
      refine Sq.nil ?_
      refine Eq.next ?_
      refine Cq.thn rfl ?_
      refine Cq.seq ?_
      refine Cq.region ?_
      refine Sq.assign .plain rfl rfl ?_
      refine Sq.assign .plain rfl rfl ?_
      refine Sq.nil ?_
      refine Eq.next ?_
      refine Cq.ret ?_
      refine Eq.pastRet ?_
      refine Eq.ret2 rfl rfl rfl ?_
      exact ⟨⟨_, _, rfl, by omega⟩, rfl⟩
    refine Sq.pickF .plain rfl rfl rfl ?_
    refine Sq.move .plain rfl rfl ?_
    refine Sq.move (.met rfl rfl rfl) rfl rfl ?_
    refine Sq.idxStr (.met rfl rfl rfl) rfl und9 rfl rfl (by omega) (str_at (by omega)) ?_
    refine Sq.eql (.met rfl rfl rfl) rfl rfl rfl ?_
    refine Sq.part (fun c18 => ?_) (fun c18 => ?_)
    · refine Sq.move (.met rfl rfl rfl) rfl rfl ?_
      refine Sq.move (.met rfl rfl rfl) rfl rfl ?_
      refine Sq.lenStr (.met rfl rfl rfl) rfl und9 rfl ?_
      refine Sq.gtr (.met rfl rfl rfl) rfl rfl rfl ?_
      refine Sq.part (fun c19 => ?_) (fun c19 => ?_)
      · refine Sq.move (.met rfl rfl rfl) rfl rfl ?_
        refine Sq.off rfl rfl rfl rfl rfl rfl ?_
        refine Sq.pickT (.met rfl rfl rfl) rfl rfl rfl ?_
        refine Sq.pickT (.met rfl rfl rfl) rfl rfl rfl ?_
        refine Sq.pickF .plain rfl rfl rfl ?_
        refine Sq.nil ?_
        refine Eq.next ?_
        refine Cq.thn rfl ?_
        refine Cq.seq ?_
        refine Cq.region ?_
        refine Sq.assign .plain rfl rfl ?_
        refine Sq.assign .plain rfl rfl ?_
        refine Sq.nil ?_
        refine Eq.next ?_
        refine Cq.ret ?_
        refine Eq.pastRet ?_
        refine Eq.ret2 rfl rfl rfl ?_
        exact ⟨⟨_, _, rfl, by omega⟩, rfl⟩
      refine Sq.move (.met rfl rfl rfl) rfl rfl ?_
      refine Sq.move (.met rfl rfl rfl) rfl rfl ?_
      refine Sq.pickF (.met rfl rfl rfl) rfl rfl rfl ?_
      refine Sq.pickT (.met rfl rfl rfl) rfl rfl rfl ?_
      refine Sq.pickF .plain rfl rfl rfl ?_
      refine Sq.nil ?_
      refine Eq.next ?_
      refine Cq.els rfl ?_
      refine Cq.skip ?_
      refine Eq.next ?_
      refine Cq.seq ?_
      refine Cq.region ?_
      refine Sq.assign .plain rfl rfl ?_
      refine Sq.nil ?_
      refine Eq.next ?_
      refine Cq.seq ?_
      refine Cq.seq ?_
      refine Cq.region ?_
      refine Sq.assign .plain rfl rfl ?_
      refine Sq.nil ?_
      refine Eq.next ?_
      refine Cq.block ?_
      refine Cq.loop (fun nn w ls => ∃ (k : Int), ∃ (n : Int), ls = [(0, Value.string s), (4, Value.bool false), (5, Value.int .i64 n), (6, Value.int .i64 k)] ∧ w0 = w ∧ (0 ≤ k ∧ k ≤ (s).size) ∧ ((s).size ≤ 17) ∧ (0 ≤ n ∧ n < 10 ^ k.toNat) ∧ nn = (((s).size : Int) - k).toNat) _ _ ⟨0, 0, rfl, rfl, by omega, by omega, by decide, rfl⟩ (.cons rfl (.cons rfl (.cons rfl (.cons rfl (.nil))))) ?_
      rintro n1 w ls ⟨k, n, rfl, rfl, hk, hz, hn, rfl⟩
      have hp := pow_small (k := k.toNat) (by omega)
      refine Cq.seq ?_
      refine Cq.seq ?_
      refine Cq.region ?_
      refine Sq.move .plain rfl rfl ?_
      refine Sq.move .plain rfl rfl ?_
      refine Sq.lenStr .plain rfl und9 rfl ?_
      refine Sq.lss .plain rfl rfl rfl ?_
      refine Sq.part (fun c20 => ?_) (fun c20 => ?_)
      · refine Sq.nil ?_
        refine Eq.next ?_
        refine Cq.thn rfl ?_
        refine Cq.skip ?_
        refine Eq.next ?_
        refine Cq.seq ?_
        refine Cq.block ?_
        refine Cq.seq ?_
        refine Cq.seq ?_
        refine Cq.region ?_
        refine Sq.move .plain rfl rfl ?_
        refine Sq.move .plain rfl rfl ?_
        refine Sq.idxStr .plain rfl und9 rfl rfl (by omega) (str_at (by omega)) ?_
        refine Sq.lss .plain rfl rfl rfl ?_
        refine Sq.part (fun c22 => ?_) (fun c22 => ?_)
        · refine Sq.move .plain rfl rfl ?_
          refine Sq.off rfl rfl rfl rfl rfl rfl ?_
          refine Sq.off rfl rfl rfl rfl rfl rfl ?_
          refine Sq.off rfl rfl rfl rfl rfl rfl ?_
          refine Sq.off rfl rfl rfl rfl rfl rfl ?_
          refine Sq.pickT .plain rfl rfl rfl ?_
          refine Sq.nil ?_
          refine Eq.next ?_
          refine Cq.thn rfl ?_
          refine Cq.seq ?_
          refine Cq.region ?_
          refine Sq.assign .plain rfl rfl ?_
          refine Sq.assign .plain rfl rfl ?_
          refine Sq.nil ?_
          refine Eq.next ?_
          refine Cq.ret ?_
          refine Eq.pastRet ?_
          refine Eq.outRet ?_
          refine Eq.pastRet ?_
          refine Eq.pastRet ?_
          refine Eq.outRet ?_
          refine Eq.pastRet ?_
          refine Eq.ret2 rfl rfl rfl ?_
          exact ⟨⟨_, _, rfl, by omega⟩, rfl⟩
        refine Sq.move .plain rfl rfl ?_
        refine Sq.move (.met rfl rfl rfl) rfl rfl ?_
        refine Sq.move (.met rfl rfl rfl) rfl rfl ?_
        refine Sq.idxStr (.met rfl rfl rfl) rfl und9 rfl rfl (by omega) (str_at (by omega)) ?_
        refine Sq.gtr (.met rfl rfl rfl) rfl rfl rfl ?_
        refine Sq.part (fun c24 => ?_) (fun c24 => ?_)
        · refine Sq.pickF .plain rfl rfl rfl ?_
          refine Sq.nil ?_
          refine Eq.next ?_
          refine Cq.thn rfl ?_
          refine Cq.seq ?_
          refine Cq.region ?_
          refine Sq.assign .plain rfl rfl ?_
          refine Sq.assign .plain rfl rfl ?_
          refine Sq.nil ?_
          refine Eq.next ?_
          refine Cq.ret ?_
          refine Eq.pastRet ?_
          refine Eq.outRet ?_
          refine Eq.pastRet ?_
          refine Eq.pastRet ?_
          refine Eq.outRet ?_
          refine Eq.pastRet ?_
          refine Eq.ret2 rfl rfl rfl ?_
          exact ⟨⟨_, _, rfl, by omega⟩, rfl⟩
        refine Sq.pickF .plain rfl rfl rfl ?_
        refine Sq.nil ?_
        refine Eq.next ?_
        refine Cq.els rfl ?_
        refine Cq.skip ?_
        refine Eq.next ?_
        refine Cq.region ?_
        refine Sq.move .plain rfl rfl ?_
        refine Sq.mul .plain rfl rfl rfl (by omega) ?_
        refine Sq.move .plain rfl rfl ?_
        refine Sq.move .plain rfl rfl ?_
        refine Sq.idxStr .plain rfl und9 rfl rfl (by omega) (str_at (by omega)) ?_
        refine Sq.sub8 .plain rfl rfl rfl (by omega) ?_
        refine Sq.conv conv5_3 .plain rfl rfl (by omega) ?_
        refine Sq.add .plain rfl rfl rfl (by omega) ?_
        refine Sq.assign .plain rfl rfl ?_
        refine Sq.nil ?_
        refine Eq.end ?_
        refine Eq.next ?_
        refine Cq.region ?_
        refine Sq.move .plain rfl rfl ?_
        refine Sq.add .plain rfl rfl rfl (by omega) ?_
        refine Sq.assign .plain rfl rfl ?_
        refine Sq.nil ?_
        have e1 := toNat_succ hk.1
        refine Eq.round _ _ ⟨k + 1, _, rfl, rfl, by omega, hz, by rw [e1]; exact pow_step hn (by omega), rfl⟩ (by omega) (.cons rfl (.cons rfl (.cons rfl (.cons rfl (.nil)))))
      refine Sq.nil ?_
      refine Eq.next ?_
      refine Cq.els rfl ?_
      refine Cq.exit ?_
      refine Eq.past ?_
      refine Eq.past ?_
      refine Eq.hit ?_
      refine Eq.next ?_
      refine Cq.seq ?_
      refine Cq.seq ?_
      refine Cq.region ?_
      refine Sq.move .plain rfl rfl ?_
      refine Sq.nil ?_
      refine Eq.next ?_
      refine Cq.els rfl ?_
      refine Cq.skip ?_
      refine Eq.next ?_
      refine Cq.seq ?_
      refine Cq.region ?_
      refine Sq.move .plain rfl rfl ?_
      refine Sq.assign .plain rfl rfl ?_
      refine Sq.assign .plain rfl rfl ?_
      refine Sq.nil ?_
      refine Eq.next ?_
      refine Cq.ret ?_
      refine Eq.ret2 rfl rfl rfl ?_
      exact ⟨⟨_, _, rfl, by omega⟩, rfl⟩
    refine Sq.move (.met rfl rfl rfl) rfl rfl ?_
    refine Sq.off rfl rfl rfl rfl rfl rfl ?_
    refine Sq.off rfl rfl rfl rfl rfl rfl ?_
    refine Sq.off rfl rfl rfl rfl rfl rfl ?_
    refine Sq.off rfl rfl rfl rfl rfl rfl ?_
    refine Sq.offU rfl rfl rfl rfl rfl rfl ?_
    refine Sq.off rfl rfl rfl rfl rfl rfl ?_
    refine Sq.pickF (.met rfl rfl rfl) rfl rfl rfl ?_
    refine Sq.pickF .plain rfl rfl rfl ?_
    refine Sq.nil ?_
    refine Eq.next ?_
    refine Cq.els rfl ?_
    refine Cq.skip ?_
    refine Eq.next ?_
    refine Cq.seq ?_
    refine Cq.region ?_
    refine Sq.assign .plain rfl rfl ?_
    refine Sq.nil ?_
    refine Eq.next ?_
    refine Cq.seq ?_
    refine Cq.seq ?_
    refine Cq.region ?_
    refine Sq.assign .plain rfl rfl ?_
    refine Sq.nil ?_
    refine Eq.next ?_
    refine Cq.block ?_
    refine Cq.loop (fun nn w ls => ∃ (k : Int), ∃ (n : Int), ls = [(0, Value.string s), (4, Value.bool false), (5, Value.int .i64 n), (6, Value.int .i64 k)] ∧ w0 = w ∧ (0 ≤ k ∧ k ≤ (s).size) ∧ ((s).size ≤ 17) ∧ (0 ≤ n ∧ n < 10 ^ k.toNat) ∧ nn = (((s).size : Int) - k).toNat) _ _ ⟨0, 0, rfl, rfl, by omega, by omega, by decide, rfl⟩ (.cons rfl (.cons rfl (.cons rfl (.cons rfl (.nil))))) ?_
    rintro n1 w ls ⟨k, n, rfl, rfl, hk, hz, hn, rfl⟩
    have hp := pow_small (k := k.toNat) (by omega)
    refine Cq.seq ?_
    refine Cq.seq ?_
    refine Cq.region ?_
    refine Sq.move .plain rfl rfl ?_
    refine Sq.move .plain rfl rfl ?_
    refine Sq.lenStr .plain rfl und9 rfl ?_
    refine Sq.lss .plain rfl rfl rfl ?_
    refine Sq.part (fun c26 => ?_) (fun c26 => ?_)
    · refine Sq.nil ?_
      refine Eq.next ?_
      refine Cq.thn rfl ?_
      refine Cq.skip ?_
      refine Eq.next ?_
      refine Cq.seq ?_
      refine Cq.block ?_
      refine Cq.seq ?_
      refine Cq.seq ?_
      refine Cq.region ?_
      refine Sq.move .plain rfl rfl ?_
      refine Sq.move .plain rfl rfl ?_
      refine Sq.idxStr .plain rfl und9 rfl rfl (by omega) (str_at (by omega)) ?_
      refine Sq.lss .plain rfl rfl rfl ?_
      refine Sq.part (fun c28 => ?_) (fun c28 => ?_)
      · refine Sq.move .plain rfl rfl ?_
        refine Sq.off rfl rfl rfl rfl rfl rfl ?_
        refine Sq.off rfl rfl rfl rfl rfl rfl ?_
        refine Sq.off rfl rfl rfl rfl rfl rfl ?_
        refine Sq.off rfl rfl rfl rfl rfl rfl ?_
        refine Sq.pickT .plain rfl rfl rfl ?_
        refine Sq.nil ?_
        refine Eq.next ?_
        refine Cq.thn rfl ?_
        refine Cq.seq ?_
        refine Cq.region ?_
        refine Sq.assign .plain rfl rfl ?_
        refine Sq.assign .plain rfl rfl ?_
        refine Sq.nil ?_
        refine Eq.next ?_
        refine Cq.ret ?_
        refine Eq.pastRet ?_
        refine Eq.outRet ?_
        refine Eq.pastRet ?_
        refine Eq.pastRet ?_
        refine Eq.outRet ?_
        refine Eq.pastRet ?_
        refine Eq.ret2 rfl rfl rfl ?_
        exact ⟨⟨_, _, rfl, by omega⟩, rfl⟩
      refine Sq.move .plain rfl rfl ?_
      refine Sq.move (.met rfl rfl rfl) rfl rfl ?_
      refine Sq.move (.met rfl rfl rfl) rfl rfl ?_
      refine Sq.idxStr (.met rfl rfl rfl) rfl und9 rfl rfl (by omega) (str_at (by omega)) ?_
      refine Sq.gtr (.met rfl rfl rfl) rfl rfl rfl ?_
      refine Sq.part (fun c30 => ?_) (fun c30 => ?_)
      · refine Sq.pickF .plain rfl rfl rfl ?_
        refine Sq.nil ?_
        refine Eq.next ?_
        refine Cq.thn rfl ?_
        refine Cq.seq ?_
        refine Cq.region ?_
        refine Sq.assign .plain rfl rfl ?_
        refine Sq.assign .plain rfl rfl ?_
        refine Sq.nil ?_
        refine Eq.next ?_
        refine Cq.ret ?_
        refine Eq.pastRet ?_
        refine Eq.outRet ?_
        refine Eq.pastRet ?_
        refine Eq.pastRet ?_
        refine Eq.outRet ?_
        refine Eq.pastRet ?_
        refine Eq.ret2 rfl rfl rfl ?_
        exact ⟨⟨_, _, rfl, by omega⟩, rfl⟩
      refine Sq.pickF .plain rfl rfl rfl ?_
      refine Sq.nil ?_
      refine Eq.next ?_
      refine Cq.els rfl ?_
      refine Cq.skip ?_
      refine Eq.next ?_
      refine Cq.region ?_
      refine Sq.move .plain rfl rfl ?_
      refine Sq.mul .plain rfl rfl rfl (by omega) ?_
      refine Sq.move .plain rfl rfl ?_
      refine Sq.move .plain rfl rfl ?_
      refine Sq.idxStr .plain rfl und9 rfl rfl (by omega) (str_at (by omega)) ?_
      refine Sq.sub8 .plain rfl rfl rfl (by omega) ?_
      refine Sq.conv conv5_3 .plain rfl rfl (by omega) ?_
      refine Sq.add .plain rfl rfl rfl (by omega) ?_
      refine Sq.assign .plain rfl rfl ?_
      refine Sq.nil ?_
      refine Eq.end ?_
      refine Eq.next ?_
      refine Cq.region ?_
      refine Sq.move .plain rfl rfl ?_
      refine Sq.add .plain rfl rfl rfl (by omega) ?_
      refine Sq.assign .plain rfl rfl ?_
      refine Sq.nil ?_
      have e1 := toNat_succ hk.1
      refine Eq.round _ _ ⟨k + 1, _, rfl, rfl, by omega, hz, by rw [e1]; exact pow_step hn (by omega), rfl⟩ (by omega) (.cons rfl (.cons rfl (.cons rfl (.cons rfl (.nil)))))
    refine Sq.nil ?_
    refine Eq.next ?_
    refine Cq.els rfl ?_
    refine Cq.exit ?_
    refine Eq.past ?_
    refine Eq.past ?_
    refine Eq.hit ?_
    refine Eq.next ?_
    refine Cq.seq ?_
    refine Cq.seq ?_
    refine Cq.region ?_
    refine Sq.move .plain rfl rfl ?_
    refine Sq.nil ?_
    refine Eq.next ?_
    refine Cq.els rfl ?_
    refine Cq.skip ?_
    refine Eq.next ?_
    refine Cq.seq ?_
    refine Cq.region ?_
    refine Sq.move .plain rfl rfl ?_
    refine Sq.assign .plain rfl rfl ?_
    refine Sq.assign .plain rfl rfl ?_
    refine Sq.nil ?_
    refine Eq.next ?_
    refine Cq.ret ?_
    refine Eq.ret2 rfl rfl rfl ?_
    exact ⟨⟨_, _, rfl, by omega⟩, rfl⟩
  refine Sq.move .plain rfl rfl ?_
  refine Sq.off rfl rfl rfl rfl rfl rfl ?_
  refine Sq.off rfl rfl rfl rfl rfl rfl ?_
  refine Sq.off rfl rfl rfl rfl rfl rfl ?_
  refine Sq.pickF .plain rfl rfl rfl ?_
  refine Sq.assign .plain rfl rfl ?_
  refine Sq.nil ?_
  refine Eq.next ?_
  refine Cq.seq ?_
  refine Cq.seq ?_
  refine Cq.region ?_
  refine Sq.move .plain rfl rfl ?_
  refine Sq.nil ?_
  refine Eq.next ?_
  refine Cq.els rfl ?_
  refine Cq.skip ?_
  refine Eq.next ?_
  refine Cq.seq ?_
  refine Cq.seq ?_
  refine Cq.region ?_
  refine Sq.move .plain rfl rfl ?_
  refine Sq.lenStr .plain rfl und9 rfl ?_
  refine Sq.eql .plain rfl rfl rfl ?_
  refine Sq.part (fun c32 => ?_) (fun c32 => ?_)
  · refine Sq.move .plain rfl rfl ?_
    refine Sq.off rfl rfl rfl rfl rfl rfl ?_
    refine Sq.off rfl rfl rfl rfl rfl rfl ?_
    refine Sq.off rfl rfl rfl rfl rfl rfl ?_
    refine Sq.pickT .plain rfl rfl rfl ?_
    refine Sq.move .plain rfl rfl ?_
    refine Sq.off rfl rfl rfl rfl rfl rfl ?_
    refine Sq.off rfl rfl rfl rfl rfl rfl ?_
    refine Sq.off rfl rfl rfl rfl rfl rfl ?_
    refine Sq.off rfl rfl rfl rfl rfl rfl ?_
    refine Sq.offU rfl rfl rfl rfl rfl rfl ?_
    refine Sq.offU rfl rfl rfl rfl rfl rfl ?_
    refine Sq.offU rfl rfl rfl rfl rfl rfl ?_
    refine Sq.offU rfl rfl rfl rfl rfl rfl ?_
    refine Sq.offU rfl rfl rfl rfl rfl rfl ?_
    refine Sq.offU rfl rfl rfl rfl rfl rfl ?_
    refine Sq.off rfl rfl rfl rfl rfl rfl ?_
    refine Sq.pickT .plain rfl rfl rfl ?_
    refine Sq.nil ?_
    refine Eq.next ?_
    refine Cq.thn rfl ?_
    refine Cq.seq ?_
    refine Cq.region ?_
    refine Sq.assign .plain rfl rfl ?_
    refine Sq.assign .plain rfl rfl ?_
    refine Sq.nil ?_
    refine Eq.next ?_
    refine Cq.ret ?_
    refine Eq.pastRet ?_
    refine Eq.ret2 rfl rfl rfl ?_
    exact ⟨⟨_, _, rfl, by omega⟩, rfl⟩
  refine Sq.move .plain rfl rfl ?_
  refine Sq.move (.met rfl rfl rfl) rfl rfl ?_
  refine Sq.lenStr (.met rfl rfl rfl) rfl und9 rfl ?_
  refine Sq.gtr (.met rfl rfl rfl) rfl rfl rfl ?_
  refine Sq.part (fun c33 => ?_) (fun c33 => ?_)
  · refine Sq.pickF .plain rfl rfl rfl ?_
    refine Sq.move .plain rfl rfl ?_
    refine Sq.off rfl rfl rfl rfl rfl rfl ?_
    refine Sq.off rfl rfl rfl rfl rfl rfl ?_
    refine Sq.off rfl rfl rfl rfl rfl rfl ?_
    refine Sq.off rfl rfl rfl rfl rfl rfl ?_
    refine Sq.offU rfl rfl rfl rfl rfl rfl ?_
    refine Sq.offU rfl rfl rfl rfl rfl rfl ?_
    refine Sq.offU rfl rfl rfl rfl rfl rfl ?_
    refine Sq.offU rfl rfl rfl rfl rfl rfl ?_
    refine Sq.offU rfl rfl rfl rfl rfl rfl ?_
    refine Sq.offU rfl rfl rfl rfl rfl rfl ?_
    refine Sq.off rfl rfl rfl rfl rfl rfl ?_
    refine Sq.pickT .plain rfl rfl rfl ?_
    refine Sq.nil ?_
    refine Eq.next ?_
    refine Cq.thn rfl ?_
    refine Cq.seq ?_
    refine Cq.region ?_
    refine Sq.assign .plain rfl rfl ?_
    refine Sq.assign .plain rfl rfl ?_
    refine Sq.nil ?_
    refine Eq.next ?_
    refine Cq.ret ?_
    refine Eq.pastRet ?_
    refine Eq.ret2 rfl rfl rfl ?_
    exact ⟨⟨_, _, rfl, by omega⟩, rfl⟩
  refine Sq.pickF .plain rfl rfl rfl ?_
  refine Sq.move .plain rfl rfl ?_
  refine Sq.move (.met rfl rfl rfl) rfl rfl ?_
  refine Sq.idxStr (.met rfl rfl rfl) rfl und9 rfl rfl (by omega) (str_at (by omega)) ?_
  refine Sq.eql (.met rfl rfl rfl) rfl rfl rfl ?_
  refine Sq.part (fun c35 => ?_) (fun c35 => ?_)
  · refine Sq.move (.met rfl rfl rfl) rfl rfl ?_
    refine Sq.move (.met rfl rfl rfl) rfl rfl ?_
    refine Sq.lenStr (.met rfl rfl rfl) rfl und9 rfl ?_
    refine Sq.gtr (.met rfl rfl rfl) rfl rfl rfl ?_
    refine Sq.part (fun c36 => ?_) (fun c36 => ?_)
    · refine Sq.move (.met rfl rfl rfl) rfl rfl ?_
      refine Sq.off rfl rfl rfl rfl rfl rfl ?_
      refine Sq.pickT (.met rfl rfl rfl) rfl rfl rfl ?_
      refine Sq.pickT (.met rfl rfl rfl) rfl rfl rfl ?_
      refine Sq.pickF .plain rfl rfl rfl ?_
      refine Sq.nil ?_
      refine Eq.next ?_
      refine Cq.thn rfl ?_
      refine Cq.seq ?_
      refine Cq.region ?_
      refine Sq.assign .plain rfl rfl ?_
      refine Sq.assign .plain rfl rfl ?_
      refine Sq.nil ?_
      refine Eq.next ?_
      refine Cq.ret ?_
      refine Eq.pastRet ?_
      refine Eq.ret2 rfl rfl rfl ?_
      exact ⟨⟨_, _, rfl, by omega⟩, rfl⟩
    refine Sq.move (.met rfl rfl rfl) rfl rfl ?_
    refine Sq.move (.met rfl rfl rfl) rfl rfl ?_
    refine Sq.pickF (.met rfl rfl rfl) rfl rfl rfl ?_
    refine Sq.pickT (.met rfl rfl rfl) rfl rfl rfl ?_
    refine Sq.pickF .plain rfl rfl rfl ?_
    refine Sq.nil ?_
    refine Eq.next ?_
    refine Cq.els rfl ?_
    refine Cq.skip ?_
    refine Eq.next ?_
    refine Cq.seq ?_
    refine Cq.region ?_
    refine Sq.assign .plain rfl rfl ?_
    refine Sq.nil ?_
    refine Eq.next ?_
    refine Cq.seq ?_
    refine Cq.seq ?_
    refine Cq.region ?_
    refine Sq.assign .plain rfl rfl ?_
    refine Sq.nil ?_
    refine Eq.next ?_
    refine Cq.block ?_
    refine Cq.loop (fun nn w ls => ∃ (k : Int), ∃ (n : Int), ls = [(0, Value.string s), (4, Value.bool false), (5, Value.int .i64 n), (6, Value.int .i64 k)] ∧ w0 = w ∧ (0 ≤ k ∧ k ≤ (s).size) ∧ ((s).size ≤ 17) ∧ (0 ≤ n ∧ n < 10 ^ k.toNat) ∧ nn = (((s).size : Int) - k).toNat) _ _ ⟨0, 0, rfl, rfl, by omega, by omega, by decide, rfl⟩ (.cons rfl (.cons rfl (.cons rfl (.cons rfl (.nil))))) ?_
    rintro n1 w ls ⟨k, n, rfl, rfl, hk, hz, hn, rfl⟩
    have hp := pow_small (k := k.toNat) (by omega)
    refine Cq.seq ?_
    refine Cq.seq ?_
    refine Cq.region ?_
    refine Sq.move .plain rfl rfl ?_
    refine Sq.move .plain rfl rfl ?_
    refine Sq.lenStr .plain rfl und9 rfl ?_
    refine Sq.lss .plain rfl rfl rfl ?_
    refine Sq.part (fun c37 => ?_) (fun c37 => ?_)
    · refine Sq.nil ?_
      refine Eq.next ?_
      refine Cq.thn rfl ?_
      refine Cq.skip ?_
      refine Eq.next ?_
      refine Cq.seq ?_
      refine Cq.block ?_
      refine Cq.seq ?_
      refine Cq.seq ?_
      refine Cq.region ?_
      refine Sq.move .plain rfl rfl ?_
      refine Sq.move .plain rfl rfl ?_
      refine Sq.idxStr .plain rfl und9 rfl rfl (by omega) (str_at (by omega)) ?_
      refine Sq.lss .plain rfl rfl rfl ?_
      refine Sq.part (fun c39 => ?_) (fun c39 => ?_)
      · refine Sq.move .plain rfl rfl ?_
        refine Sq.off rfl rfl rfl rfl rfl rfl ?_
        refine Sq.off rfl rfl rfl rfl rfl rfl ?_
        refine Sq.off rfl rfl rfl rfl rfl rfl ?_
        refine Sq.off rfl rfl rfl rfl rfl rfl ?_
        refine Sq.pickT .plain rfl rfl rfl ?_
        refine Sq.nil ?_
        refine Eq.next ?_
        refine Cq.thn rfl ?_
        refine Cq.seq ?_
        refine Cq.region ?_
        refine Sq.assign .plain rfl rfl ?_
        refine Sq.assign .plain rfl rfl ?_
        refine Sq.nil ?_
        refine Eq.next ?_
        refine Cq.ret ?_
        refine Eq.pastRet ?_
        refine Eq.outRet ?_
        refine Eq.pastRet ?_
        refine Eq.pastRet ?_
        refine Eq.outRet ?_
        refine Eq.pastRet ?_
        refine Eq.ret2 rfl rfl rfl ?_
        exact ⟨⟨_, _, rfl, by omega⟩, rfl⟩
      refine Sq.move .plain rfl rfl ?_
      refine Sq.move (.met rfl rfl rfl) rfl rfl ?_
      refine Sq.move (.met rfl rfl rfl) rfl rfl ?_
      refine Sq.idxStr (.met rfl rfl rfl) rfl und9 rfl rfl (by omega) (str_at (by omega)) ?_
      refine Sq.gtr (.met rfl rfl rfl) rfl rfl rfl ?_
      refine Sq.part (fun c41 => ?_) (fun c41 => ?_)
      · refine Sq.pickF .plain rfl rfl rfl ?_
        refine Sq.nil ?_
        refine Eq.next ?_
        refine Cq.thn rfl ?_
        refine Cq.seq ?_
        refine Cq.region ?_
        refine Sq.assign .plain rfl rfl ?_
        refine Sq.assign .plain rfl rfl ?_
        refine Sq.nil ?_
        refine Eq.next ?_
        refine Cq.ret ?_
        refine Eq.pastRet ?_
        refine Eq.outRet ?_
        refine Eq.pastRet ?_
        refine Eq.pastRet ?_
        refine Eq.outRet ?_
        refine Eq.pastRet ?_
        refine Eq.ret2 rfl rfl rfl ?_
        exact ⟨⟨_, _, rfl, by omega⟩, rfl⟩
      refine Sq.pickF .plain rfl rfl rfl ?_
      refine Sq.nil ?_
      refine Eq.next ?_
      refine Cq.els rfl ?_
      refine Cq.skip ?_
      refine Eq.next ?_
      refine Cq.region ?_
      refine Sq.move .plain rfl rfl ?_
      refine Sq.mul .plain rfl rfl rfl (by omega) ?_
      refine Sq.move .plain rfl rfl ?_
      refine Sq.move .plain rfl rfl ?_
      refine Sq.idxStr .plain rfl und9 rfl rfl (by omega) (str_at (by omega)) ?_
      refine Sq.sub8 .plain rfl rfl rfl (by omega) ?_
      refine Sq.conv conv5_3 .plain rfl rfl (by omega) ?_
      refine Sq.add .plain rfl rfl rfl (by omega) ?_
      refine Sq.assign .plain rfl rfl ?_
      refine Sq.nil ?_
      refine Eq.end ?_
      refine Eq.next ?_
      refine Cq.region ?_
      refine Sq.move .plain rfl rfl ?_
      refine Sq.add .plain rfl rfl rfl (by omega) ?_
      refine Sq.assign .plain rfl rfl ?_
      refine Sq.nil ?_
      have e1 := toNat_succ hk.1
      refine Eq.round _ _ ⟨k + 1, _, rfl, rfl, by omega, hz, by rw [e1]; exact pow_step hn (by omega), rfl⟩ (by omega) (.cons rfl (.cons rfl (.cons rfl (.cons rfl (.nil)))))
    refine Sq.nil ?_
    refine Eq.next ?_
    refine Cq.els rfl ?_
    refine Cq.exit ?_
    refine Eq.past ?_
    refine Eq.past ?_
    refine Eq.hit ?_
    refine Eq.next ?_
    refine Cq.seq ?_
    refine Cq.seq ?_
    refine Cq.region ?_
    refine Sq.move .plain rfl rfl ?_
    refine Sq.nil ?_
    refine Eq.next ?_
    refine Cq.els rfl ?_
    refine Cq.skip ?_
    refine Eq.next ?_
    refine Cq.seq ?_
    refine Cq.region ?_
    refine Sq.move .plain rfl rfl ?_
    refine Sq.assign .plain rfl rfl ?_
    refine Sq.assign .plain rfl rfl ?_
    refine Sq.nil ?_
    refine Eq.next ?_
    refine Cq.ret ?_
    refine Eq.ret2 rfl rfl rfl ?_
    exact ⟨⟨_, _, rfl, by omega⟩, rfl⟩
  refine Sq.move (.met rfl rfl rfl) rfl rfl ?_
  refine Sq.off rfl rfl rfl rfl rfl rfl ?_
  refine Sq.off rfl rfl rfl rfl rfl rfl ?_
  refine Sq.off rfl rfl rfl rfl rfl rfl ?_
  refine Sq.off rfl rfl rfl rfl rfl rfl ?_
  refine Sq.offU rfl rfl rfl rfl rfl rfl ?_
  refine Sq.off rfl rfl rfl rfl rfl rfl ?_
  refine Sq.pickF (.met rfl rfl rfl) rfl rfl rfl ?_
  refine Sq.pickF .plain rfl rfl rfl ?_
  refine Sq.nil ?_
  refine Eq.next ?_
  refine Cq.els rfl ?_
  refine Cq.skip ?_
  refine Eq.next ?_
  refine Cq.seq ?_
  refine Cq.region ?_
  refine Sq.assign .plain rfl rfl ?_
  refine Sq.nil ?_
  refine Eq.next ?_
  refine Cq.seq ?_
  refine Cq.seq ?_
  refine Cq.region ?_
  refine Sq.assign .plain rfl rfl ?_
  refine Sq.nil ?_
  refine Eq.next ?_
  refine Cq.block ?_
  refine Cq.loop (fun nn w ls => ∃ (k : Int), ∃ (n : Int), ls = [(0, Value.string s), (4, Value.bool false), (5, Value.int .i64 n), (6, Value.int .i64 k)] ∧ w0 = w ∧ (0 ≤ k ∧ k ≤ (s).size) ∧ ((s).size ≤ 17) ∧ (0 ≤ n ∧ n < 10 ^ k.toNat) ∧ nn = (((s).size : Int) - k).toNat) _ _ ⟨0, 0, rfl, rfl, by omega, by omega, by decide, rfl⟩ (.cons rfl (.cons rfl (.cons rfl (.cons rfl (.nil))))) ?_
  rintro n1 w ls ⟨k, n, rfl, rfl, hk, hz, hn, rfl⟩
  have hp := pow_small (k := k.toNat) (by omega)
  refine Cq.seq ?_
  refine Cq.seq ?_
  refine Cq.region ?_
  refine Sq.move .plain rfl rfl ?_
  refine Sq.move .plain rfl rfl ?_
  refine Sq.lenStr .plain rfl und9 rfl ?_
  refine Sq.lss .plain rfl rfl rfl ?_
  refine Sq.part (fun c43 => ?_) (fun c43 => ?_)
  · refine Sq.nil ?_
    refine Eq.next ?_
    refine Cq.thn rfl ?_
    refine Cq.skip ?_
    refine Eq.next ?_
    refine Cq.seq ?_
    refine Cq.block ?_
    refine Cq.seq ?_
    refine Cq.seq ?_
    refine Cq.region ?_
    refine Sq.move .plain rfl rfl ?_
    refine Sq.move .plain rfl rfl ?_
    refine Sq.idxStr .plain rfl und9 rfl rfl (by omega) (str_at (by omega)) ?_
    refine Sq.lss .plain rfl rfl rfl ?_
    refine Sq.part (fun c45 => ?_) (fun c45 => ?_)
    · refine Sq.move .plain rfl rfl ?_
      refine Sq.off rfl rfl rfl rfl rfl rfl ?_
      refine Sq.off rfl rfl rfl rfl rfl rfl ?_
      refine Sq.off rfl rfl rfl rfl rfl rfl ?_
      refine Sq.off rfl rfl rfl rfl rfl rfl ?_
      refine Sq.pickT .plain rfl rfl rfl ?_
      refine Sq.nil ?_
      refine Eq.next ?_
      refine Cq.thn rfl ?_
      refine Cq.seq ?_
      refine Cq.region ?_
      refine Sq.assign .plain rfl rfl ?_
      refine Sq.assign .plain rfl rfl ?_
      refine Sq.nil ?_
      refine Eq.next ?_
      refine Cq.ret ?_
      refine Eq.pastRet ?_
      refine Eq.outRet ?_
      refine Eq.pastRet ?_
      refine Eq.pastRet ?_
      refine Eq.outRet ?_
      refine Eq.pastRet ?_
      refine Eq.ret2 rfl rfl rfl ?_
      exact ⟨⟨_, _, rfl, by omega⟩, rfl⟩
    refine Sq.move .plain rfl rfl ?_
    refine Sq.move (.met rfl rfl rfl) rfl rfl ?_
    refine Sq.move (.met rfl rfl rfl) rfl rfl ?_
    refine Sq.idxStr (.met rfl rfl rfl) rfl und9 rfl rfl (by omega) (str_at (by omega)) ?_
    refine Sq.gtr (.met rfl rfl rfl) rfl rfl rfl ?_
    refine Sq.part (fun c47 => ?_) (fun c47 => ?_)
    · refine Sq.pickF .plain rfl rfl rfl ?_
      refine Sq.nil ?_
      refine Eq.next ?_
      refine Cq.thn rfl ?_
      refine Cq.seq ?_
      refine Cq.region ?_
      refine Sq.assign .plain rfl rfl ?_
      refine Sq.assign .plain rfl rfl ?_
      refine Sq.nil ?_
      refine Eq.next ?_
      refine Cq.ret ?_
      refine Eq.pastRet ?_
      refine Eq.outRet ?_
      refine Eq.pastRet ?_
      refine Eq.pastRet ?_
      refine Eq.outRet ?_
      refine Eq.pastRet ?_
      refine Eq.ret2 rfl rfl rfl ?_
      exact ⟨⟨_, _, rfl, by omega⟩, rfl⟩
    refine Sq.pickF .plain rfl rfl rfl ?_
    refine Sq.nil ?_
    refine Eq.next ?_
    refine Cq.els rfl ?_
    refine Cq.skip ?_
    refine Eq.next ?_
    refine Cq.region ?_
    refine Sq.move .plain rfl rfl ?_
    refine Sq.mul .plain rfl rfl rfl (by omega) ?_
    refine Sq.move .plain rfl rfl ?_
    refine Sq.move .plain rfl rfl ?_
    refine Sq.idxStr .plain rfl und9 rfl rfl (by omega) (str_at (by omega)) ?_
    refine Sq.sub8 .plain rfl rfl rfl (by omega) ?_
    refine Sq.conv conv5_3 .plain rfl rfl (by omega) ?_
    refine Sq.add .plain rfl rfl rfl (by omega) ?_
    refine Sq.assign .plain rfl rfl ?_
    refine Sq.nil ?_
    refine Eq.end ?_
    refine Eq.next ?_
    refine Cq.region ?_
    refine Sq.move .plain rfl rfl ?_
    refine Sq.add .plain rfl rfl rfl (by omega) ?_
    refine Sq.assign .plain rfl rfl ?_
    refine Sq.nil ?_
    have e1 := toNat_succ hk.1
    refine Eq.round _ _ ⟨k + 1, _, rfl, rfl, by omega, hz, by rw [e1]; exact pow_step hn (by omega), rfl⟩ (by omega) (.cons rfl (.cons rfl (.cons rfl (.cons rfl (.nil)))))
  refine Sq.nil ?_
  refine Eq.next ?_
  refine Cq.els rfl ?_
  refine Cq.exit ?_
  refine Eq.past ?_
  refine Eq.past ?_
  refine Eq.hit ?_
  refine Eq.next ?_
  refine Cq.seq ?_
  refine Cq.seq ?_
  refine Cq.region ?_
  refine Sq.move .plain rfl rfl ?_
  refine Sq.nil ?_
  refine Eq.next ?_
  refine Cq.els rfl ?_
  refine Cq.skip ?_
  refine Eq.next ?_
  refine Cq.seq ?_
  refine Cq.region ?_
  refine Sq.move .plain rfl rfl ?_
  refine Sq.assign .plain rfl rfl ?_
  refine Sq.assign .plain rfl rfl ?_
  refine Sq.nil ?_
  refine Eq.next ?_
  refine Cq.ret ?_
  refine Eq.ret2 rfl rfl rfl ?_
  exact ⟨⟨_, _, rfl, by omega⟩, rfl⟩
set_option maxRecDepth 100000 in
theorem l3Parse_c (s : ByteArray) (hs : s.size ≤ 100000) (w0 : World) : Ret Try.prog 38 #[Value.string s] w0 (fun v w => (∃ (r : Value) (ok : Bool) (xs : List Int), v = .tuple #[r, .bool ok] ∧ Own w w0.heap.size 3 r (xs.map (Value.int .i64)) ∧ xs.length ≤ s.size + 1) ∧ Ext w0 w) := by
  have E := Ext.refl w0
  refine Ret.of (args := [Value.string s]) Try.func38 rfl rfl rfl ?_
  rintro _ rfl
  show Cq _ _ _ _ [(0, Value.string s)] _
  refine Cq.seq ?_
  refine Cq.region ?_
  refine Sq.assign .plain rfl rfl ?_
  refine Sq.assign .plain rfl rfl ?_
  refine Sq.nil ?_
  refine Eq.next ?_
  refine Cq.seq ?_
  refine Cq.region ?_
  refine Sq.lit sl38 rfl rfl .plain rfl rfl one_nil (fun b1 w2 e3 hlo4 ho5 _ => ?_)
  replace ho5 := ho5 w0.heap.size (Nat.le_refl _)
  have hs7 := Below.size e3
  replace E := E.trans e3
  refine Sq.assign .plain rfl rfl ?_
  refine Sq.nil ?_
  refine Eq.next ?_
  refine Cq.seq ?_
  refine Cq.seq ?_
  refine Cq.region ?_
  refine Sq.move .plain rfl rfl ?_
  refine Sq.eqlS .plain rfl rfl rfl ?_
  refine Sq.part (fun c8 => ?_) (fun c8 => ?_)
  · refine Sq.nil ?_
    refine Eq.next ?_
    refine Cq.thn rfl ?_
    refine Cq.seq ?_
    refine Cq.region ?_
    refine Sq.move .plain rfl rfl ?_
    refine Sq.assign .plain rfl rfl ?_
    refine Sq.assign .plain rfl rfl ?_
    refine Sq.nil ?_
    refine Eq.next ?_
    refine Cq.ret ?_
    refine Eq.pastRet ?_
    refine Eq.ret2 rfl rfl rfl ?_
    exact ⟨⟨_, _, [], rfl, Own.mono ho5 (by omega), by simp⟩, E⟩
  refine Sq.nil ?_
  refine Eq.next ?_
  refine Cq.els rfl ?_
  refine Cq.skip ?_
  refine Eq.next ?_
  refine Cq.seq ?_
  refine Cq.region ?_
  refine Sq.move .plain rfl rfl ?_
  refine Sq.call fn36 .plain rfl rfl (cut_c s 44 (by omega) _) ?_
  rintro v9 w10 ⟨⟨xs12, ho13, hxl14, hxs15⟩, e11⟩
  have hs16 := Below.size E
  have hs17 := Below.size e11
  replace E := E.trans e11
  replace ho5 := ho5.ext e11
  refine Sq.assign .plain rfl rfl ?_
  refine Sq.nil ?_
  refine Eq.next ?_
  refine Cq.seq ?_
  refine Cq.seq ?_
  refine Cq.region ?_
  refine Sq.assign .plain rfl rfl ?_
  refine Sq.nil ?_
  refine Eq.next ?_
  refine Cq.block ?_
  refine Cq.loop (fun nn w ls => ∃ (k : Int), ∃ (v : Value), ∃ (ys : List Int), ls = [(0, Value.string s), (4, v), (5, v9), (6, Value.int .i64 k)] ∧ (0 ≤ k ∧ k ≤ xs12.length) ∧ Own w w0.heap.size 3 v (ys.map (Value.int .i64)) ∧ ((ys.length : Int) = k) ∧ Ext w0 w ∧ Own w w2.heap.size 9 v9 (xs12.map Value.string) ∧ nn = ((xs12.length : Int) - k).toNat) _ _ ⟨0, _, [], rfl, by omega, Own.mono ho5 (by omega), rfl, E, ho13, rfl⟩ (.cons rfl (.cons rfl (.cons rfl (.cons rfl (.nil))))) ?_
  rintro nn wl1 ls ⟨k, v, ys, rfl, hk, ho, hl, E, ho13, rfl⟩
  have hs18 := Below.size E
  refine Cq.seq ?_
  refine Cq.seq ?_
  refine Cq.region ?_
  refine Sq.move .plain rfl rfl ?_
  refine Sq.move .plain rfl rfl ?_
  refine Sq.lenStrs (Own.row ho13) .plain rfl und60 rfl ?_
  refine Sq.lss .plain rfl rfl rfl ?_
  refine Sq.part (fun c19 => ?_) (fun c19 => ?_)
  · refine Sq.nil ?_
    refine Eq.next ?_
    refine Cq.thn rfl ?_
    refine Cq.skip ?_
    refine Eq.next ?_
    refine Cq.seq ?_
    refine Cq.block ?_
    refine Cq.seq ?_
    refine Cq.region ?_
    refine Sq.move .plain rfl rfl ?_
    refine Sq.move .plain rfl rfl ?_
    refine Sq.idxStrs sl60 one9 (Own.row ho13) .plain rfl rfl rfl .plain rfl rfl (by omega) (by omega) ?_
    refine Sq.call fn43 .plain rfl rfl (num10_c (xs12.getD k.toNat ByteArray.empty) (by exact Nat.le_trans (hxs15 _ (getD_mem (by omega))) (by omega)) _) ?_
    rintro _ _ ⟨⟨n20, ok21, rfl, hn22⟩, rfl⟩
    refine Sq.move .plain rfl rfl ?_
    refine Sq.extract .plain rfl rfl rfl ?_
    refine Sq.extract .plain rfl rfl rfl ?_
    refine Sq.assign .plain rfl rfl ?_
    refine Sq.assign .plain rfl rfl ?_
    refine Sq.nil ?_
    refine Eq.next ?_
    refine Cq.seq ?_
    refine Cq.seq ?_
    refine Cq.region ?_
    refine Sq.move .plain rfl rfl ?_
    refine Sq.partB (fun c23 => ?_) (fun c23 => ?_)
    · refine Sq.notT .plain rfl rfl ?_
      refine Sq.nil ?_
      refine Eq.next ?_
      refine Cq.els rfl ?_
      refine Cq.skip ?_
      refine Eq.next ?_
      refine Cq.region ?_
      refine Sq.move .plain rfl rfl ?_
      refine Sq.move .plain rfl rfl ?_
      refine Sq.app1 sl38 ho (by omega) (by simp; omega) .plain rfl rfl rfl rfl rfl rfl rfl (fun v24 w25 ho27 g26 _ => ?_)
      have hs28 := g26.size
      replace E := E.owned ho g26 (by omega)
      replace ho13 := ho13.owned ho g26 (by decide)
      refine Sq.assign .plain rfl rfl ?_
      refine Sq.nil ?_
      refine Eq.end ?_
      refine Eq.next ?_
      refine Cq.region ?_
      refine Sq.move .plain rfl rfl ?_
      refine Sq.add .plain rfl rfl rfl (by omega) ?_
      refine Sq.assign .plain rfl rfl ?_
      refine Sq.nil ?_
      refine Eq.round _ _ ⟨k + 1, _, _, rfl, by omega, Own.snocI ho27, by simp; omega, E, ho13, rfl⟩ (by omega) (.cons rfl (.cons rfl (.cons rfl (.cons rfl (.nil)))))
    refine Sq.notF .plain rfl rfl ?_
    refine Sq.nil ?_
    refine Eq.next ?_
    refine Cq.thn rfl ?_
    refine Cq.seq ?_
    refine Cq.region ?_
    refine Sq.assign .plain rfl rfl ?_
    refine Sq.assign .plain rfl rfl ?_
    refine Sq.nil ?_
    refine Eq.next ?_
    refine Cq.ret ?_
    refine Eq.pastRet ?_
    refine Eq.outRet ?_
    refine Eq.pastRet ?_
    refine Eq.pastRet ?_
    refine Eq.outRet ?_
    refine Eq.pastRet ?_
    refine Eq.ret2 rfl rfl rfl ?_
    exact ⟨⟨_, _, [], rfl, Own.nil _ _ _, by simp⟩, E⟩
  refine Sq.nil ?_
  refine Eq.next ?_
  refine Cq.els rfl ?_
  refine Cq.exit ?_
  refine Eq.past ?_
  refine Eq.past ?_
  refine Eq.hit ?_
  refine Eq.next ?_
  refine Cq.seq ?_
  refine Cq.region ?_
  refine Sq.move .plain rfl rfl ?_
  refine Sq.assign .plain rfl rfl ?_
  refine Sq.assign .plain rfl rfl ?_
  refine Sq.nil ?_
  refine Eq.next ?_
  refine Cq.ret ?_
  refine Eq.ret2 rfl rfl rfl ?_
  exact ⟨⟨_, _, ys, rfl, ho, by omega⟩, E⟩
set_option maxRecDepth 100000 in
theorem fmtA_c (w0 : World) (a : A) (nx ac : Value) (hnx : Rows w0 38 3 nx a.next) (hac : Bools w0 4 ac a.acc) : Ret Try.prog 39 #[Value.agg #[Value.int .i64 a.al, nx, ac]] w0 (fun v w => (∃ s, v = .string s ∧ s.size ≤ 2000) ∧ Ext w0 w) := by
  have E := Ext.refl w0
  refine Ret.of (args := [Value.agg #[Value.int .i64 a.al, nx, ac]]) Try.func39 rfl rfl rfl ?_
  rintro _ rfl
  show Cq _ _ _ _ [(0, Value.agg #[Value.int .i64 a.al, nx, ac])] _
  refine Cq.seq ?_
  refine Cq.region ?_
  refine Sq.box .plain rfl rfl (fun b1 w2 e3 hB4 hlo5 => ?_)
  have hd6 := Nat.le_trans (Below.size E) hlo5
  have hs7 := Below.size e3
  replace E := E.trans e3
  refine Sq.assign .plain rfl rfl ?_
  refine Sq.nil ?_
  refine Eq.next ?_
  refine Cq.seq ?_
  refine Cq.seq ?_
  refine Cq.region ?_
  refine Sq.loadAgg agg26 .plain rfl rfl hB4 rfl ?_
  have hd11 := hB4.lt
  refine Sq.call fn13 .plain rfl rfl (sValid_c _ a _ _ (hnx.ext E) (hac.ext E)) ?_
  rintro _ w9 ⟨rfl, e10⟩
  have hs12 := Below.size E
  have hs13 := Below.size e10
  replace E := E.trans e10
  replace hB4 := hB4.ext e10
  refine Sq.partB (fun hv => ?_) (fun hv => ?_)
  · refine Sq.notT .plain rfl rfl ?_
    refine Sq.nil ?_
    refine Eq.next ?_
    refine Cq.els rfl ?_
    refine Cq.skip ?_
    refine Eq.next ?_
    refine Cq.seq ?_
    refine Cq.region ?_
    refine Sq.fieldAddr fld26_0 .plain rfl rfl ?_
    refine Sq.loadB one3 .plain rfl rfl hB4 rfl ?_
    have hd17 := hB4.lt
    refine Sq.call fn42 .plain rfl rfl (fmtAl_c a.al _) ?_
    rintro _ w15 ⟨rfl, e16⟩
    have hs18 := Below.size E
    have hs19 := Below.size e16
    replace E := E.trans e16
    replace hB4 := hB4.ext e16
    refine Sq.assign .plain rfl rfl ?_
    refine Sq.nil ?_
    refine Eq.next ?_
    refine Cq.seq ?_
    refine Cq.seq ?_
    refine Cq.region ?_
    refine Sq.assign .plain rfl rfl ?_
    refine Sq.nil ?_
    refine Eq.next ?_
    refine Cq.block ?_
    have hfs := fmtAl_size a.al
    have hvs := validA_spec.1 hv
    have hv1 := hvs.2.1
    have hv2 := hvs.2.2.1
    refine Cq.loop (fun nn w ls => ∃ (i : Int), ∃ (t : ByteArray), ls = [(1, Value.pointer (some ⟨b1, 0, none⟩)), (3, Value.string t), (4, Value.int .i64 i)] ∧ (0 ≤ i ∧ i ≤ a.next.length) ∧ ((t.size : Int) ≤ 6 + 100 * i) ∧ Ext w0 w ∧ Blk w b1 26 [Value.int .i64 a.al, nx, ac] ∧ nn = ((a.next.length : Int) - i).toNat) _ _ ⟨0, _, rfl, by omega, by omega, E, hB4, rfl⟩ (.cons rfl (.cons rfl (.cons rfl (.nil)))) ?_
    rintro nn wl1 ls ⟨i, t, rfl, hi, ht, E, hB4, rfl⟩
    have hs20 := Below.size E
    have hr6 := valid_row6 hv (k := i.toNat)
    refine Cq.seq ?_
    refine Cq.seq ?_
    refine Cq.region ?_
    refine Sq.move .plain rfl rfl ?_
    refine Sq.fieldAddr fld26_1 .plain rfl rfl ?_
    refine Sq.loadB one23 .plain rfl rfl hB4 rfl ?_
    refine Sq.lenRows (hnx.ext E) .plain rfl und23 rfl ?_
    refine Sq.lss .plain rfl rfl rfl ?_
    refine Sq.part (fun c21 => ?_) (fun c21 => ?_)
    · refine Sq.nil ?_
      refine Eq.next ?_
      refine Cq.thn rfl ?_
      refine Cq.skip ?_
      refine Eq.next ?_
      refine Cq.seq ?_
      refine Cq.block ?_
      refine Cq.seq ?_
      refine Cq.region ?_
      refine Sq.assign .plain rfl rfl ?_
      refine Sq.nil ?_
      refine Eq.next ?_
      refine Cq.seq ?_
      refine Cq.seq ?_
      refine Cq.region ?_
      refine Sq.fieldAddr fld26_2 .plain rfl rfl ?_
      refine Sq.loadB one24 .plain rfl rfl hB4 rfl ?_
      refine Sq.move .plain rfl rfl ?_
      refine Sq.idxBools sl24 one4 (hac.ext E) .plain rfl rfl rfl .plain rfl rfl (by omega) (by omega) ?_
      refine Sq.partB (fun c22 => ?_) (fun c22 => ?_)
      · refine Sq.nil ?_
        refine Eq.next ?_
        refine Cq.thn rfl ?_
        refine Cq.region ?_
        refine Sq.assign .plain rfl rfl ?_
        refine Sq.nil ?_
        refine Eq.next ?_
        refine Cq.seq ?_
        refine Cq.region ?_
        refine Sq.move .plain rfl rfl ?_
        refine Sq.move .plain rfl rfl ?_
        refine Sq.cat .plain rfl rfl rfl (by show t.size + 2 ≤ _; omega) ?_
        refine Sq.assign .plain rfl rfl ?_
        refine Sq.nil ?_
        refine Eq.next ?_
        refine Cq.seq ?_
        refine Cq.region ?_
        refine Sq.assign .plain rfl rfl ?_
        refine Sq.nil ?_
        refine Eq.next ?_
        refine Cq.block ?_
        refine Cq.loop (fun nn w ls => ∃ (k : Int), ∃ (u : ByteArray), ls = [(1, Value.pointer (some ⟨b1, 0, none⟩)), (3, Value.string u), (4, Value.int .i64 i), (6, Value.int .i64 k)] ∧ (0 ≤ k ∧ k ≤ (a.next.getD i.toNat []).length) ∧ ((u.size : Int) ≤ 8 + 100 * i + 15 * k) ∧ Ext w0 w ∧ Blk w b1 26 [Value.int .i64 a.al, nx, ac] ∧ nn = (((a.next.getD i.toNat []).length : Int) - k).toNat) _ _ ⟨0, _, rfl, by omega, by rw [size_cat]; show ((t.size + 2 : Nat) : Int) ≤ _; omega, E, hB4, rfl⟩ (.cons rfl (.cons rfl (.cons rfl (.cons rfl (.nil))))) ?_
        rintro nn wl2 ls ⟨k, u, rfl, hk, hu, E, hB4, rfl⟩
        have hs23 := Below.size E
        have hen := valid_at hv (k := i.toNat) (j := k.toNat)
        refine Cq.seq ?_
        refine Cq.seq ?_
        refine Cq.region ?_
        refine Sq.move .plain rfl rfl ?_
        refine Sq.fieldAddr fld26_1 .plain rfl rfl ?_
        refine Sq.loadB one23 .plain rfl rfl hB4 rfl ?_
        refine Sq.move .plain rfl rfl ?_
        refine Sq.idxRows sl23 one38 (hnx.ext E) .plain rfl rfl rfl .plain rfl rfl (by omega) (by omega) (fun r24 hr25 => ?_)
        refine Sq.lenInts hr25 .plain rfl und38 rfl ?_
        refine Sq.lss .plain rfl rfl rfl ?_
        refine Sq.part (fun c26 => ?_) (fun c26 => ?_)
        · refine Sq.nil ?_
          refine Eq.next ?_
          refine Cq.thn rfl ?_
          refine Cq.skip ?_
          refine Eq.next ?_
          refine Cq.seq ?_
          refine Cq.block ?_
          refine Cq.seq ?_
          refine Cq.seq ?_
          refine Cq.region ?_
          refine Sq.move .plain rfl rfl ?_
          refine Sq.gtr .plain rfl rfl rfl ?_
          refine Sq.part (fun c27 => ?_) (fun c27 => ?_)
          · refine Sq.nil ?_
            refine Eq.next ?_
            refine Cq.thn rfl ?_
            refine Cq.region ?_
            refine Sq.move .plain rfl rfl ?_
            refine Sq.cat .plain rfl rfl rfl (by show u.size + 1 ≤ _; omega) ?_
            refine Sq.assign .plain rfl rfl ?_
            refine Sq.nil ?_
            refine Eq.next ?_
            refine Cq.region ?_
            refine Sq.move .plain rfl rfl ?_
            refine Sq.fieldAddr fld26_1 .plain rfl rfl ?_
            refine Sq.loadB one23 .plain rfl rfl hB4 rfl ?_
            refine Sq.move .plain rfl rfl ?_
            refine Sq.idxRows sl23 one38 (hnx.ext E) .plain rfl rfl rfl .plain rfl rfl (by omega) (by omega) (fun r28 hr29 => ?_)
            refine Sq.move .plain rfl rfl ?_
            refine Sq.idxInts sl38 one3 hr29 .plain rfl rfl rfl .plain rfl rfl (by omega) (by omega) ?_
            have hd35 := hB4.lt
            refine Sq.call fn44 .plain rfl rfl (dec_c ((a.next.getD i.toNat []).getD k.toNat 0) (by have := hen (by omega) (by omega); omega) _) ?_
            rintro _ w31 ⟨⟨s33, rfl, hs34⟩, e32⟩
            have hs36 := Below.size E
            have hs37 := Below.size e32
            replace E := E.trans e32
            replace hB4 := hB4.ext e32
            refine Sq.cat .plain rfl rfl rfl (by (try simp only [size_cat]); first | omega | (show (u.size + 1) + _ ≤ _; omega)) ?_
            refine Sq.assign .plain rfl rfl ?_
            refine Sq.nil ?_
            refine Eq.end ?_
            refine Eq.next ?_
            refine Cq.region ?_
            refine Sq.move .plain rfl rfl ?_
            refine Sq.add .plain rfl rfl rfl (by omega) ?_
            refine Sq.assign .plain rfl rfl ?_
            refine Sq.nil ?_
            refine Eq.round _ _ ⟨k + 1, _, rfl, by omega, by simp only [size_cat]; first | omega | (show ((u.size + 1 + _ : Nat) : Int) ≤ _; omega), E, hB4, rfl⟩ (by omega) (.cons rfl (.cons rfl (.cons rfl (.cons rfl (.nil)))))
          refine Sq.nil ?_
          refine Eq.next ?_
          refine Cq.els rfl ?_
          refine Cq.skip ?_
          refine Eq.next ?_
          refine Cq.region ?_
          refine Sq.move .plain rfl rfl ?_
          refine Sq.fieldAddr fld26_1 .plain rfl rfl ?_
          refine Sq.loadB one23 .plain rfl rfl hB4 rfl ?_
          refine Sq.move .plain rfl rfl ?_
          refine Sq.idxRows sl23 one38 (hnx.ext E) .plain rfl rfl rfl .plain rfl rfl (by omega) (by omega) (fun r38 hr39 => ?_)
          refine Sq.move .plain rfl rfl ?_
          refine Sq.idxInts sl38 one3 hr39 .plain rfl rfl rfl .plain rfl rfl (by omega) (by omega) ?_
          have hd45 := hB4.lt
          refine Sq.call fn44 .plain rfl rfl (dec_c ((a.next.getD i.toNat []).getD k.toNat 0) (by have := hen (by omega) (by omega); omega) _) ?_
          rintro _ w41 ⟨⟨s43, rfl, hs44⟩, e42⟩
          have hs46 := Below.size E
          have hs47 := Below.size e42
          replace E := E.trans e42
          replace hB4 := hB4.ext e42
          refine Sq.cat .plain rfl rfl rfl (by (try simp only [size_cat]); first | omega | (show (u.size + 1) + _ ≤ _; omega)) ?_
          refine Sq.assign .plain rfl rfl ?_
          refine Sq.nil ?_
          refine Eq.end ?_
          refine Eq.next ?_
          refine Cq.region ?_
          refine Sq.move .plain rfl rfl ?_
          refine Sq.add .plain rfl rfl rfl (by omega) ?_
          refine Sq.assign .plain rfl rfl ?_
          refine Sq.nil ?_
          refine Eq.round _ _ ⟨k + 1, _, rfl, by omega, by simp only [size_cat]; first | omega | (show ((u.size + 1 + _ : Nat) : Int) ≤ _; omega), E, hB4, rfl⟩ (by omega) (.cons rfl (.cons rfl (.cons rfl (.cons rfl (.nil)))))
        refine Sq.nil ?_
        refine Eq.next ?_
        refine Cq.els rfl ?_
        refine Cq.exit ?_
        refine Eq.past ?_
        refine Eq.past ?_
        refine Eq.hit ?_
        refine Eq.end ?_
        refine Eq.next ?_
        refine Cq.region ?_
        refine Sq.move .plain rfl rfl ?_
        refine Sq.add .plain rfl rfl rfl (by omega) ?_
        refine Sq.assign .plain rfl rfl ?_
        refine Sq.nil ?_
        refine Eq.round _ _ ⟨i + 1, _, rfl, by omega, by omega, E, hB4, rfl⟩ (by omega) (.cons rfl (.cons rfl (.cons rfl (.nil))))
      refine Sq.nil ?_
      refine Eq.next ?_
      refine Cq.els rfl ?_
      refine Cq.skip ?_
      refine Eq.next ?_
      refine Cq.seq ?_
      refine Cq.region ?_
      refine Sq.move .plain rfl rfl ?_
      refine Sq.move .plain rfl rfl ?_
      refine Sq.cat .plain rfl rfl rfl (by show t.size + 2 ≤ _; omega) ?_
      refine Sq.assign .plain rfl rfl ?_
      refine Sq.nil ?_
      refine Eq.next ?_
      refine Cq.seq ?_
      refine Cq.region ?_
      refine Sq.assign .plain rfl rfl ?_
      refine Sq.nil ?_
      refine Eq.next ?_
      refine Cq.block ?_
      refine Cq.loop (fun nn w ls => ∃ (k : Int), ∃ (u : ByteArray), ls = [(1, Value.pointer (some ⟨b1, 0, none⟩)), (3, Value.string u), (4, Value.int .i64 i), (6, Value.int .i64 k)] ∧ (0 ≤ k ∧ k ≤ (a.next.getD i.toNat []).length) ∧ ((u.size : Int) ≤ 8 + 100 * i + 15 * k) ∧ Ext w0 w ∧ Blk w b1 26 [Value.int .i64 a.al, nx, ac] ∧ nn = (((a.next.getD i.toNat []).length : Int) - k).toNat) _ _ ⟨0, _, rfl, by omega, by rw [size_cat]; show ((t.size + 2 : Nat) : Int) ≤ _; omega, E, hB4, rfl⟩ (.cons rfl (.cons rfl (.cons rfl (.cons rfl (.nil))))) ?_
      rintro nn wl2 ls ⟨k, u, rfl, hk, hu, E, hB4, rfl⟩
      have hs48 := Below.size E
      have hen := valid_at hv (k := i.toNat) (j := k.toNat)
      refine Cq.seq ?_
      refine Cq.seq ?_
      refine Cq.region ?_
      refine Sq.move .plain rfl rfl ?_
      refine Sq.fieldAddr fld26_1 .plain rfl rfl ?_
      refine Sq.loadB one23 .plain rfl rfl hB4 rfl ?_
      refine Sq.move .plain rfl rfl ?_
      refine Sq.idxRows sl23 one38 (hnx.ext E) .plain rfl rfl rfl .plain rfl rfl (by omega) (by omega) (fun r49 hr50 => ?_)
      refine Sq.lenInts hr50 .plain rfl und38 rfl ?_
      refine Sq.lss .plain rfl rfl rfl ?_
      refine Sq.part (fun c51 => ?_) (fun c51 => ?_)
      · refine Sq.nil ?_
        refine Eq.next ?_
        refine Cq.thn rfl ?_
        refine Cq.skip ?_
        refine Eq.next ?_
        refine Cq.seq ?_
        refine Cq.block ?_
        refine Cq.seq ?_
        refine Cq.seq ?_
        refine Cq.region ?_
        refine Sq.move .plain rfl rfl ?_
        refine Sq.gtr .plain rfl rfl rfl ?_
        refine Sq.part (fun c52 => ?_) (fun c52 => ?_)
        · refine Sq.nil ?_
          refine Eq.next ?_
          refine Cq.thn rfl ?_
          refine Cq.region ?_
          refine Sq.move .plain rfl rfl ?_
          refine Sq.cat .plain rfl rfl rfl (by show u.size + 1 ≤ _; omega) ?_
          refine Sq.assign .plain rfl rfl ?_
          refine Sq.nil ?_
          refine Eq.next ?_
          refine Cq.region ?_
          refine Sq.move .plain rfl rfl ?_
          refine Sq.fieldAddr fld26_1 .plain rfl rfl ?_
          refine Sq.loadB one23 .plain rfl rfl hB4 rfl ?_
          refine Sq.move .plain rfl rfl ?_
          refine Sq.idxRows sl23 one38 (hnx.ext E) .plain rfl rfl rfl .plain rfl rfl (by omega) (by omega) (fun r53 hr54 => ?_)
          refine Sq.move .plain rfl rfl ?_
          refine Sq.idxInts sl38 one3 hr54 .plain rfl rfl rfl .plain rfl rfl (by omega) (by omega) ?_
          have hd60 := hB4.lt
          refine Sq.call fn44 .plain rfl rfl (dec_c ((a.next.getD i.toNat []).getD k.toNat 0) (by have := hen (by omega) (by omega); omega) _) ?_
          rintro _ w56 ⟨⟨s58, rfl, hs59⟩, e57⟩
          have hs61 := Below.size E
          have hs62 := Below.size e57
          replace E := E.trans e57
          replace hB4 := hB4.ext e57
          refine Sq.cat .plain rfl rfl rfl (by (try simp only [size_cat]); first | omega | (show (u.size + 1) + _ ≤ _; omega)) ?_
          refine Sq.assign .plain rfl rfl ?_
          refine Sq.nil ?_
          refine Eq.end ?_
          refine Eq.next ?_
          refine Cq.region ?_
          refine Sq.move .plain rfl rfl ?_
          refine Sq.add .plain rfl rfl rfl (by omega) ?_
          refine Sq.assign .plain rfl rfl ?_
          refine Sq.nil ?_
          refine Eq.round _ _ ⟨k + 1, _, rfl, by omega, by simp only [size_cat]; first | omega | (show ((u.size + 1 + _ : Nat) : Int) ≤ _; omega), E, hB4, rfl⟩ (by omega) (.cons rfl (.cons rfl (.cons rfl (.cons rfl (.nil)))))
        refine Sq.nil ?_
        refine Eq.next ?_
        refine Cq.els rfl ?_
        refine Cq.skip ?_
        refine Eq.next ?_
        refine Cq.region ?_
        refine Sq.move .plain rfl rfl ?_
        refine Sq.fieldAddr fld26_1 .plain rfl rfl ?_
        refine Sq.loadB one23 .plain rfl rfl hB4 rfl ?_
        refine Sq.move .plain rfl rfl ?_
        refine Sq.idxRows sl23 one38 (hnx.ext E) .plain rfl rfl rfl .plain rfl rfl (by omega) (by omega) (fun r63 hr64 => ?_)
        refine Sq.move .plain rfl rfl ?_
        refine Sq.idxInts sl38 one3 hr64 .plain rfl rfl rfl .plain rfl rfl (by omega) (by omega) ?_
        have hd70 := hB4.lt
        refine Sq.call fn44 .plain rfl rfl (dec_c ((a.next.getD i.toNat []).getD k.toNat 0) (by have := hen (by omega) (by omega); omega) _) ?_
        rintro _ w66 ⟨⟨s68, rfl, hs69⟩, e67⟩
        have hs71 := Below.size E
        have hs72 := Below.size e67
        replace E := E.trans e67
        replace hB4 := hB4.ext e67
        refine Sq.cat .plain rfl rfl rfl (by (try simp only [size_cat]); first | omega | (show (u.size + 1) + _ ≤ _; omega)) ?_
        refine Sq.assign .plain rfl rfl ?_
        refine Sq.nil ?_
        refine Eq.end ?_
        refine Eq.next ?_
        refine Cq.region ?_
        refine Sq.move .plain rfl rfl ?_
        refine Sq.add .plain rfl rfl rfl (by omega) ?_
        refine Sq.assign .plain rfl rfl ?_
        refine Sq.nil ?_
        refine Eq.round _ _ ⟨k + 1, _, rfl, by omega, by simp only [size_cat]; first | omega | (show ((u.size + 1 + _ : Nat) : Int) ≤ _; omega), E, hB4, rfl⟩ (by omega) (.cons rfl (.cons rfl (.cons rfl (.cons rfl (.nil)))))
      refine Sq.nil ?_
      refine Eq.next ?_
      refine Cq.els rfl ?_
      refine Cq.exit ?_
      refine Eq.past ?_
      refine Eq.past ?_
      refine Eq.hit ?_
      refine Eq.end ?_
      refine Eq.next ?_
      refine Cq.region ?_
      refine Sq.move .plain rfl rfl ?_
      refine Sq.add .plain rfl rfl rfl (by omega) ?_
      refine Sq.assign .plain rfl rfl ?_
      refine Sq.nil ?_
      refine Eq.round _ _ ⟨i + 1, _, rfl, by omega, by omega, E, hB4, rfl⟩ (by omega) (.cons rfl (.cons rfl (.cons rfl (.nil))))
    refine Sq.nil ?_
    refine Eq.next ?_
    refine Cq.els rfl ?_
    refine Cq.exit ?_
    refine Eq.past ?_
    refine Eq.past ?_
    refine Eq.hit ?_
    refine Eq.next ?_
    refine Cq.seq ?_
    refine Cq.region ?_
    refine Sq.move .plain rfl rfl ?_
    refine Sq.assign .plain rfl rfl ?_
    refine Sq.nil ?_
    refine Eq.next ?_
    refine Cq.ret ?_
    refine Eq.ret1 rfl rfl ?_
    exact ⟨⟨_, rfl, by first | (show 0 ≤ 2000; omega) | omega⟩, E⟩
  refine Sq.notF .plain rfl rfl ?_
  refine Sq.nil ?_
  refine Eq.next ?_
  refine Cq.thn rfl ?_
  refine Cq.seq ?_
  refine Cq.region ?_
  refine Sq.assign .plain rfl rfl ?_
  refine Sq.nil ?_
  refine Eq.next ?_
  refine Cq.ret ?_
  refine Eq.pastRet ?_
  refine Eq.ret1 rfl rfl ?_
  exact ⟨⟨_, rfl, by first | (show 0 ≤ 2000; omega) | omega⟩, E⟩
end Go.Proofs.Ytpnelflmecchlaa
set_option linter.unusedSimpArgs false
set_option linter.unusedVariables false
namespace Go.Proofs.Ytpnelflmecchlaa
open Go.RowKit
set_option maxRecDepth 100000 in
theorem parseA_c (s : ByteArray) (hs : s.size ≤ 100) (w0 : World) : Ret Try.prog 31 #[Value.string s] w0 (fun v w => (∃ (u : Value) (ok : Bool) (a : A), v = .tuple #[u, .bool ok] ∧ OwnA w w0.heap.size u a ∧ Small 200 a ∧ 0 ≤ a.al ∧ a.al ≤ 63) ∧ Ext w0 w) := by
  have E := Ext.refl w0
  refine Ret.of (args := [Value.string s]) Try.func31 rfl rfl rfl ?_
  rintro _ rfl
  show Cq _ _ _ _ [(0, Value.string s)] _
  refine Cq.seq ?_
  refine Cq.region ?_
  refine Sq.alloc zero26 .plain rfl (fun b1 w2 e3 hB4 hlo5 => ?_)
  have hd6 := Nat.le_trans (Below.size E) hlo5
  have hs7 := Below.size e3
  replace E := E.trans e3
  refine Sq.assign .plain rfl rfl ?_
  refine Sq.nil ?_
  refine Eq.next ?_
  refine Cq.seq ?_
  refine Cq.region ?_
  refine Sq.move .plain rfl rfl ?_
  have hd15 := hB4.lt
  refine Sq.call fn36 .plain rfl rfl (cut_c s 32 (by omega) _) ?_
  rintro v8 w9 ⟨⟨xs11, ho12, hxl13, hxs14⟩, e10⟩
  have hs16 := Below.size E
  have hs17 := Below.size e10
  replace E := E.trans e10
  replace hB4 := hB4.ext e10
  refine Sq.assign .plain rfl rfl ?_
  refine Sq.nil ?_
  refine Eq.next ?_
  refine Cq.seq ?_
  refine Cq.region ?_
  refine Sq.move .plain rfl rfl ?_
  refine Sq.idxStrs sl60 one9 (Own.row ho12) .plain rfl rfl rfl .plain rfl rfl (by omega) (by omega) ?_
  have hd24 := hB4.lt
  refine Sq.call fn37 .plain rfl rfl (parseAl_c ((xs11.getD (0 : Int).toNat ByteArray.empty)) _) ?_
  rintro _ w19 ⟨⟨n21, ok22, rfl, hn23⟩, e20⟩
  have hs25 := Below.size E
  have hs26 := Below.size e20
  replace E := E.trans e20
  replace hB4 := hB4.ext e20
  replace ho12 := ho12.ext e20
  refine Sq.move .plain rfl rfl ?_
  refine Sq.extract .plain rfl rfl rfl ?_
  refine Sq.extract .plain rfl rfl rfl ?_
  refine Sq.assign .plain rfl rfl ?_
  refine Sq.assign .plain rfl rfl ?_
  refine Sq.nil ?_
  refine Eq.next ?_
  refine Cq.seq ?_
  refine Cq.seq ?_
  refine Cq.region ?_
  refine Sq.move .plain rfl rfl ?_
  refine Sq.partB (fun c27 => ?_) (fun c27 => ?_)
  · refine Sq.notT .plain rfl rfl ?_
    refine Sq.nil ?_
    refine Eq.next ?_
    refine Cq.els rfl ?_
    refine Cq.skip ?_
    refine Eq.next ?_
    refine Cq.seq ?_
    refine Cq.region ?_
    refine Sq.move .plain rfl rfl ?_
    refine Sq.build st26 rfl rfl .plain rfl rfl (one_cons rfl one_nil) rfl ?_
    refine Sq.alloc zero26 .plain rfl (fun b28 w29 e30 hB31 hlo32 => ?_)
    have hd33 := Nat.le_trans (Below.size E) hlo32
    have hd34 := Nat.lt_of_lt_of_le hB4.lt hlo32
    have hs35 := Below.size e30
    replace E := E.trans e30
    replace hB4 := hB4.ext e30
    replace ho12 := ho12.ext e30
    refine Sq.storeAgg agg26 .plain rfl rfl (one_cons rfl (one_cons rfl (one_cons rfl one_nil))) hB31 rfl rfl (fun w36 g37 hB38 => ?_)
    have hs39 := World.grownBy.size g37
    replace E := E.grown g37 (fun k hk => by injection hk with hk; subst hk; omega)
    replace hB4 := hB4.grown g37 (by intro h; injection h with h; omega)
    replace ho12 := ho12.stored g37 hB31 (by decide)
    replace hB31 := hB38
    refine Sq.nil ?_
    refine Eq.next ?_
    refine Cq.seq ?_
    refine Cq.seq ?_
    refine Cq.region ?_
    refine Sq.assign .plain rfl rfl ?_
    refine Sq.nil ?_
    refine Eq.next ?_
    refine Cq.block ?_
    refine Cq.loop (fun nn w ls => ∃ (i : Int), ∃ (nxv : Value), ∃ (acv : Value), ∃ (xss : List (List Int)), ∃ (ys : List Bool), ls = [(0, Value.string s), (2, Value.pointer (some ⟨b1, 0, none⟩)), (4, v8), (7, Value.pointer (some ⟨b28, 0, none⟩)), (8, Value.int .i64 i)] ∧ (1 ≤ i ∧ i ≤ xs11.length) ∧ Blk w b28 26 [Value.int .i64 n21, nxv, acv] ∧ OwnRows w w0.heap.size w.heap.size 38 3 nxv xss ∧ Own w w0.heap.size 4 acv (ys.map Value.bool) ∧ ((xss.length : Int) = i - 1 ∧ (ys.length : Int) = i - 1 ∧ ∀ row ∈ xss, row.length ≤ 150) ∧ Ext w0 w ∧ Blk w b1 26 [Value.int .i64 0, Value.slice none 0 0, Value.slice none 0 0] ∧ Own w w2.heap.size 9 v8 (xs11.map Value.string) ∧ nn = ((xs11.length : Int) - i).toNat) _ _ ⟨1, _, _, [], [], rfl, by omega, hB31, OwnRows.nil _ _ _ _ _, Own.nil _ _ _, by simp, E, hB4, ho12, rfl⟩ (.cons rfl (.cons rfl (.cons rfl (.cons rfl (.cons rfl (.nil)))))) ?_
    rintro nn wl1 ls ⟨i, nxv, acv, xss, ys, rfl, hi, hB7, hor, hoa, hxl, E, hB4, ho12, rfl⟩
    have hs40 := Below.size E
    refine Cq.seq ?_
    refine Cq.seq ?_
    refine Cq.region ?_
    refine Sq.move .plain rfl rfl ?_
    refine Sq.move .plain rfl rfl ?_
    refine Sq.lenStrs (Own.row ho12) .plain rfl und60 rfl ?_
    refine Sq.lss .plain rfl rfl rfl ?_
    refine Sq.part (fun c41 => ?_) (fun c41 => ?_)
    · refine Sq.nil ?_
      refine Eq.next ?_
      refine Cq.thn rfl ?_
      refine Cq.skip ?_
      refine Eq.next ?_
      refine Cq.seq ?_
      refine Cq.block ?_
      refine Cq.seq ?_
      refine Cq.seq ?_
      refine Cq.region ?_
      refine Sq.move .plain rfl rfl ?_
      refine Sq.move .plain rfl rfl ?_
      refine Sq.idxStrs sl60 one9 (Own.row ho12) .plain rfl rfl rfl .plain rfl rfl (by omega) (by omega) ?_
      refine Sq.eqlS .plain rfl rfl rfl ?_
      refine Sq.part (fun hne => ?_) (fun hne => ?_)
      · refine Sq.nil ?_
        refine Eq.next ?_
        refine Cq.thn rfl ?_
        refine Cq.seq ?_
        refine Cq.region ?_
        refine Sq.build st26 rfl rfl .plain rfl rfl one_nil rfl ?_
        refine Sq.storeAgg agg26 .plain rfl rfl (one_cons rfl (one_cons rfl (one_cons rfl one_nil))) hB4 rfl rfl (fun w42 g43 hB44 => ?_)
        have hs45 := World.grownBy.size g43
        replace E := E.grown g43 (fun k hk => by injection hk with hk; subst hk; omega)
        replace hB4 := hB44
        refine Sq.assign .plain rfl rfl ?_
        refine Sq.nil ?_
        refine Eq.next ?_
        refine Cq.ret ?_
        refine Eq.pastRet ?_
        refine Eq.outRet ?_
        refine Eq.pastRet ?_
        refine Eq.pastRet ?_
        refine Eq.outRet ?_
        refine Eq.pastRet ?_
        refine Eq.retCell2 rfl rfl agg26 hB4 rfl rfl ?_
        exact ⟨⟨_, _, zeroA, rfl, ⟨_, _, rfl, OwnRows.nil _ _ _ _ _, Own.nil _ _ _⟩, by refine ⟨?_, ?_, ?_, ?_⟩ <;> simp [zeroA], by simp [zeroA]⟩, E⟩
      refine Sq.nil ?_
      refine Eq.next ?_
      refine Cq.els rfl ?_
      refine Cq.skip ?_
      refine Eq.next ?_
      refine Cq.seq ?_
      refine Cq.region ?_
      have hne1 := str_ne hne
      have hps := hxs14 _ (getD_mem (d := ByteArray.empty) (k := i.toNat) (by omega))
      have hcl : ((xs11.getD i.toNat ByteArray.empty).extract (1 : Int).toNat (xs11.getD i.toNat ByteArray.empty).size).size ≤ 100 := Nat.le_trans (size_cut _) (by omega)
      refine Sq.move .plain rfl rfl ?_
      refine Sq.move .plain rfl rfl ?_
      refine Sq.idxStrs sl60 one9 (Own.row ho12) .plain rfl rfl rfl .plain rfl rfl (by omega) (by omega) ?_
      refine Sq.val .plain rfl rfl (Still.cutL und9 rfl rfl (by omega)) ?_
      have hd54 := hB4.lt
      have hd55 := hB7.lt
      refine Sq.call fn38 .plain rfl rfl (l3Parse_c (((xs11.getD i.toNat ByteArray.empty).extract (1 : Int).toNat (xs11.getD i.toNat ByteArray.empty).size)) (by omega) _) ?_
      rintro _ w47 ⟨⟨r49, ok50, xs51, rfl, ho52, hl53⟩, e48⟩
      have hs56 := Below.size E
      have hs57 := Below.size e48
      replace E := E.trans e48
      replace hB4 := hB4.ext e48
      replace ho12 := ho12.ext e48
      replace hB7 := hB7.ext e48
      replace hor := hor.ext e48
      replace hoa := hoa.ext e48
      refine Sq.move .plain rfl rfl ?_
      refine Sq.extract .plain rfl rfl rfl ?_
      refine Sq.extract .plain rfl rfl rfl ?_
      refine Sq.assign .plain rfl rfl ?_
      refine Sq.assign .plain rfl rfl ?_
      refine Sq.nil ?_
      refine Eq.next ?_
      refine Cq.seq ?_
      refine Cq.seq ?_
      refine Cq.region ?_
      refine Sq.move .plain rfl rfl ?_
      refine Sq.partB (fun c58 => ?_) (fun c58 => ?_)
      · refine Sq.notT .plain rfl rfl ?_
        refine Sq.nil ?_
        refine Eq.next ?_
        refine Cq.els rfl ?_
        refine Cq.skip ?_
        refine Eq.next ?_
        refine Cq.seq ?_
        refine Cq.region ?_
        refine Sq.fieldAddr fld26_1 .plain rfl rfl ?_
        refine Sq.loadB one23 .plain rfl rfl hB7 rfl ?_
        refine Sq.move .plain rfl rfl ?_
        obtain ⟨rs63, q64, q65, q66⟩ := OwnRows.open hor (by decide)
        have q66x := Ext.refl w47
        refine Sq.app1 sl23 q64 (by omega) (by rw [q65]; first | omega | (simp; omega)) .plain rfl rfl rfl rfl rfl rfl (Row.one (Own.row ho52)) (fun v59 w60 ho62 g61 _ => ?_)
        have hs67 := g61.size
        have ho62r := q66 _ xs51 _ _ _ (Ext.refl _) (Own.mono ho52 (by omega)) (by omega) ho62 g61
        replace E := E.owned q64 g61 (by omega)
        replace hB4 := hB4.owned q64 g61 (by decide)
        replace ho12 := ho12.owned q64 g61 (by decide)
        replace hB7 := hB7.owned q64 g61 (by decide)
        replace hoa := hoa.owned q64 g61 (by decide)
        refine Sq.fieldAddr fld26_1 .plain rfl rfl ?_
        refine Sq.store one23 .plain rfl rfl (Rows.one (OwnRows.rows ho62r)) hB7 (by simp) (fun w68 g69 hB70 => ?_)
        have hs71 := World.grownBy.size g69
        replace E := E.grown g69 (fun k hk => by injection hk with hk; subst hk; omega)
        replace hB4 := hB4.grown g69 (by intro h; injection h with h; omega)
        replace ho12 := ho12.stored g69 hB7 (by decide)
        replace hoa := hoa.stored g69 hB7 (by decide)
        replace ho62r := ho62r.stored g69 hB7 (by decide) (by decide)
        replace hB7 := hB70
        refine Sq.nil ?_
        refine Eq.next ?_
        obtain ⟨pS, hpS⟩ := Strs.at (Own.row ho12) (i := i) (by omega) (by omega)
        refine Cq.drawS 10 (fun w' => Blk w' b28 26 [Value.int .i64 n21, v59, acv] ∧ At w' 9 v8 i pS (.string (xs11.getD i.toNat ByteArray.empty))) mixed (⟨hB7, hpS⟩) (fun w72 e73 hS => ?_)
        clear hS
        have hs74 := Below.size e73
        replace E := E.trans e73
        replace hB4 := hB4.ext e73
        replace ho12 := ho12.ext e73
        replace hB7 := hB7.ext e73
        replace hoa := hoa.ext e73
        replace ho62r := ho62r.ext e73
        replace hpS := hpS.ext e73
        refine Gq.st 0 rfl (by kernel_rfl) rfl .plain rfl (fun _ _ _ h => h) ⟨hB7, hpS⟩ (fun w' x => Still.fieldAddr fld26_2 rfl) ?_
        refine Gq.st 1 rfl (by kernel_rfl) rfl .plain rfl (fun _ _ _ h => h) ⟨hB7, hpS⟩ (fun w' x => Still.loadB one24 rfl x.1 rfl) ?_
        refine Gq.st 2 rfl (by kernel_rfl) rfl .plain rfl (fun _ _ _ h => h) ⟨hB7, hpS⟩ (fun w' x => Still.move rfl) ?_
        refine Gq.st 3 rfl (by kernel_rfl) rfl .plain rfl (fun _ _ _ h => h) ⟨hB7, hpS⟩ (fun w' x => Still.move rfl) ?_
        refine Gq.st 4 rfl (by kernel_rfl) rfl .plain rfl (fun _ _ _ h => h) ⟨hB7, hpS⟩ (fun w' x => Still.at' sl60 hpS rfl rfl) ?_
        refine Gq.st 5 rfl (by kernel_rfl) rfl .plain rfl (fun _ _ _ h => h) ⟨hB7, hpS⟩ (fun w' x => Still.loadA one9 rfl (x.2).1) ?_
        refine Gq.st 6 rfl (by kernel_rfl) rfl .plain rfl (fun _ _ _ h => h) ⟨hB7, hpS⟩ (fun w' x => Still.idxStr und9 rfl rfl (by omega) (str_at (by omega))) ?_
        refine Gq.st 7 rfl (by kernel_rfl) rfl .plain rfl (fun _ _ _ h => h) ⟨hB7, hpS⟩ (fun w' x => Still.eql rfl rfl) ?_
        refine Gq.one 8 rfl (by kernel_rfl) ?_
        refine Sq.lit sl24 rfl rfl .plain rfl rfl (one_cons rfl one_nil) (fun b75 w76 e77 hlo78 ho79 _ => ?_)
        replace ho79 := ho79 w72.heap.size (Nat.le_refl _)
        have hs81 := Below.size e77
        replace E := E.trans e77
        replace hB4 := hB4.ext e77
        replace ho12 := ho12.ext e77
        replace hB7 := hB7.ext e77
        replace hoa := hoa.ext e77
        replace ho62r := ho62r.ext e77
        replace hpS := hpS.ext e77
        refine Sq.nil ?_
        refine Eq.goes (fun _ => ⟨hB7, hpS⟩) ?_
        refine Gq.one 9 rfl (by kernel_rfl) ?_
        refine Sq.app sl24 hoa (by omega) (Own.row ho79) (one_cons rfl one_nil) (by first | omega | (simp; omega)) .plain rfl rfl rfl rfl (fun v82 w83 ho85 g84 => ?_)
        have hs86 := g84.size
        replace E := E.owned hoa g84 (by omega)
        replace hB4 := hB4.owned hoa g84 (by decide)
        replace ho12 := ho12.owned hoa g84 (by decide)
        replace hB7 := hB7.owned hoa g84 (by decide)
        replace ho62r := ho62r.owned hoa g84 (by decide) (by decide)
        replace hpS := hpS.owned hoa g84 (by decide)
        refine Sq.nil ?_
        refine Eq.goes (fun _ => ⟨hB7, hpS⟩) ?_
        refine Gq.one 10 rfl (by kernel_rfl) ?_
        refine Sq.fieldAddr fld26_2 .plain rfl rfl ?_
        refine Sq.nil ?_
        refine Eq.goes (fun h => absurd h (by decide)) ?_
        refine Gq.one 11 rfl (by kernel_rfl) ?_
        refine Sq.store one24 .plain rfl rfl (Row.one (Own.row ho85)) hB7 (by simp) (fun w87 g88 hB89 => ?_)
        have hs90 := World.grownBy.size g88
        replace E := E.grown g88 (fun k hk => by injection hk with hk; subst hk; omega)
        replace hB4 := hB4.grown g88 (by intro h; injection h with h; omega)
        replace ho12 := ho12.stored g88 hB7 (by decide)
        replace ho62r := ho62r.stored g88 hB7 (by decide) (by decide)
        replace ho85 := ho85.stored g88 hB7 (by decide)
        replace hB7 := hB89
        refine Sq.nil ?_
        refine Eq.goes (fun h => absurd h (by decide)) ?_
        refine Gq.done (by kernel_rfl) ?_
        refine Eq.end ?_
        refine Eq.next ?_
        refine Cq.region ?_
        refine Sq.move .plain rfl rfl ?_
        refine Sq.add .plain rfl rfl rfl (by omega) ?_
        refine Sq.assign .plain rfl rfl ?_
        refine Sq.nil ?_
        refine Eq.round _ _ ⟨i + 1, _, _, _, _, rfl, by omega, hB7, OwnRows.now ho62r, Own.snocB ho85, ⟨by simp; omega, by simp; omega, all_app hxl.2.2 (by omega)⟩, E, hB4, ho12, rfl⟩ (by omega) (.cons rfl (.cons rfl (.cons rfl (.cons rfl (.cons rfl (.nil))))))
      refine Sq.notF .plain rfl rfl ?_
      refine Sq.nil ?_
      refine Eq.next ?_
      refine Cq.thn rfl ?_
      refine Cq.seq ?_
      refine Cq.region ?_
      refine Sq.build st26 rfl rfl .plain rfl rfl one_nil rfl ?_
      refine Sq.storeAgg agg26 .plain rfl rfl (one_cons rfl (one_cons rfl (one_cons rfl one_nil))) hB4 rfl rfl (fun w91 g92 hB93 => ?_)
      have hs94 := World.grownBy.size g92
      replace E := E.grown g92 (fun k hk => by injection hk with hk; subst hk; omega)
      replace hB4 := hB93
      refine Sq.assign .plain rfl rfl ?_
      refine Sq.nil ?_
      refine Eq.next ?_
      refine Cq.ret ?_
      refine Eq.pastRet ?_
      refine Eq.outRet ?_
      refine Eq.pastRet ?_
      refine Eq.pastRet ?_
      refine Eq.outRet ?_
      refine Eq.pastRet ?_
      refine Eq.retCell2 rfl rfl agg26 hB4 rfl rfl ?_
      exact ⟨⟨_, _, zeroA, rfl, ⟨_, _, rfl, OwnRows.nil _ _ _ _ _, Own.nil _ _ _⟩, by refine ⟨?_, ?_, ?_, ?_⟩ <;> simp [zeroA], by simp [zeroA]⟩, E⟩
    refine Sq.nil ?_
    refine Eq.next ?_
    refine Cq.els rfl ?_
    refine Cq.exit ?_
    refine Eq.past ?_
    refine Eq.past ?_
    refine Eq.hit ?_
    refine Eq.next ?_
    refine Cq.seq ?_
    refine Cq.seq ?_
    refine Cq.region ?_
    refine Sq.loadAgg agg26 .plain rfl rfl hB7 rfl ?_
    have hd100 := hB4.lt
    have hd101 := hB7.lt
    refine Sq.call fn39 .plain rfl rfl (fmtA_c _ (⟨n21, xss, ys⟩ : A) _ _ (OwnRows.rows hor) (Own.row hoa)) ?_
    rintro _ w96 ⟨⟨s98, rfl, hs99⟩, e97⟩
    have hs102 := Below.size E
    have hs103 := Below.size e97
    replace E := E.trans e97
    replace hB4 := hB4.ext e97
    replace hB7 := hB7.ext e97
    replace hor := hor.ext e97
    replace hoa := hoa.ext e97
    refine Sq.move .plain rfl rfl ?_
    refine Sq.neqS .plain rfl rfl rfl ?_
    refine Sq.part (fun c104 => ?_) (fun c104 => ?_)
    · refine Sq.nil ?_
      refine Eq.next ?_
      refine Cq.thn rfl ?_
      refine Cq.seq ?_
      refine Cq.region ?_
      refine Sq.build st26 rfl rfl .plain rfl rfl one_nil rfl ?_
      refine Sq.storeAgg agg26 .plain rfl rfl (one_cons rfl (one_cons rfl (one_cons rfl one_nil))) hB4 rfl rfl (fun w105 g106 hB107 => ?_)
      have hs108 := World.grownBy.size g106
      replace E := E.grown g106 (fun k hk => by injection hk with hk; subst hk; omega)
      replace hB4 := hB107
      refine Sq.assign .plain rfl rfl ?_
      refine Sq.nil ?_
      refine Eq.next ?_
      refine Cq.ret ?_
      refine Eq.pastRet ?_
      refine Eq.retCell2 rfl rfl agg26 hB4 rfl rfl ?_
      exact ⟨⟨_, _, zeroA, rfl, ⟨_, _, rfl, OwnRows.nil _ _ _ _ _, Own.nil _ _ _⟩, by refine ⟨?_, ?_, ?_, ?_⟩ <;> simp [zeroA], by simp [zeroA]⟩, E⟩
    refine Sq.nil ?_
    refine Eq.next ?_
    refine Cq.els rfl ?_
    refine Cq.skip ?_
    refine Eq.next ?_
    refine Cq.seq ?_
    refine Cq.region ?_
    refine Sq.loadAgg agg26 .plain rfl rfl hB7 rfl ?_
    refine Sq.storeAgg agg26 .plain rfl rfl (one_cons rfl (one_cons (Rows.one (OwnRows.rows hor)) (one_cons (Row.one (Own.row hoa)) one_nil))) hB4 rfl rfl (fun w109 g110 hB111 => ?_)
    have hs112 := World.grownBy.size g110
    replace E := E.grown g110 (fun k hk => by injection hk with hk; subst hk; omega)
    replace hor := hor.stored g110 hB4 (by decide) (by decide)
    replace hoa := hoa.stored g110 hB4 (by decide)
    replace hB4 := hB111
    refine Sq.assign .plain rfl rfl ?_
    refine Sq.nil ?_
    refine Eq.next ?_
    refine Cq.ret ?_
    refine Eq.retCell2 rfl rfl agg26 hB4 rfl rfl ?_
    exact ⟨⟨_, _, ⟨n21, xss, ys⟩, rfl, ⟨_, _, rfl, OwnRows.now hor, hoa⟩, by refine ⟨?_, ?_, ?_, ?_⟩ <;> first | (show -1000 ≤ n21 ∧ n21 ≤ 1000; omega) | (show xss.length ≤ 200; omega) | (show ys.length ≤ 200; omega) | (intro row hr; have := hxl.2.2 row hr; omega), by show 0 ≤ n21 ∧ n21 ≤ 63; omega⟩, E⟩
  refine Sq.notF .plain rfl rfl ?_
  refine Sq.nil ?_
  refine Eq.next ?_
  refine Cq.thn rfl ?_
  refine Cq.seq ?_
  refine Cq.region ?_
  refine Sq.build st26 rfl rfl .plain rfl rfl one_nil rfl ?_
  refine Sq.storeAgg agg26 .plain rfl rfl (one_cons rfl (one_cons rfl (one_cons rfl one_nil))) hB4 rfl rfl (fun w113 g114 hB115 => ?_)
  have hs116 := World.grownBy.size g114
  replace E := E.grown g114 (fun k hk => by injection hk with hk; subst hk; omega)
  replace hB4 := hB115
  refine Sq.assign .plain rfl rfl ?_
  refine Sq.nil ?_
  refine Eq.next ?_
  refine Cq.ret ?_
  refine Eq.pastRet ?_
  refine Eq.retCell2 rfl rfl agg26 hB4 rfl rfl ?_
  exact ⟨⟨_, _, zeroA, rfl, ⟨_, _, rfl, OwnRows.nil _ _ _ _ _, Own.nil _ _ _⟩, by refine ⟨?_, ?_, ?_, ?_⟩ <;> simp [zeroA], by simp [zeroA]⟩, E⟩
set_option maxRecDepth 100000 in
theorem l3Texts_c (w0 : World) : Ret Try.prog 33 #[] w0 (fun v w => (∃ xs : List ByteArray, Own w w0.heap.size 9 v (xs.map Value.string) ∧ xs.length = 12 ∧ ∀ x ∈ xs, x.size ≤ 60) ∧ Ext w0 w) := by
  have E := Ext.refl w0
  refine Ret.of (args := []) Try.func33 rfl rfl rfl ?_
  rintro _ rfl
  show Cq _ _ _ _ [] _
  refine Cq.seq ?_
  refine Cq.region ?_
  refine Sq.assign .plain rfl rfl ?_
  refine Sq.nil ?_
  refine Eq.next ?_
  refine Cq.seq ?_
  refine Cq.region ?_
  refine Sq.lit sl60 rfl rfl .plain rfl rfl (one_cons rfl (one_cons rfl (one_cons rfl (one_cons rfl (one_cons rfl (one_cons rfl (one_cons rfl (one_cons rfl (one_cons rfl (one_cons rfl (one_cons rfl (one_cons rfl one_nil)))))))))))) (fun b1 w2 e3 hlo4 ho5 _ => ?_)
  replace ho5 := ho5 w0.heap.size (Nat.le_refl _)
  have hs7 := Below.size e3
  replace E := E.trans e3
  refine Sq.assign .plain rfl rfl ?_
  refine Sq.nil ?_
  refine Eq.next ?_
  refine Cq.ret ?_
  refine Eq.ret1 rfl rfl ?_
  exact ⟨⟨([(⟨#[97, 98, 32, 43, 49, 44, 48, 32, 45, 49, 44, 49]⟩ : ByteArray), (⟨#[97, 98, 32, 43, 48, 44, 49, 32, 43, 50, 44, 49, 32, 45, 50, 44, 50]⟩ : ByteArray), (⟨#[97, 99, 32, 43, 49, 44, 50, 32, 43, 49, 44, 50, 32, 45, 50, 44, 50]⟩ : ByteArray), (⟨#[98, 32, 43, 49, 32, 45, 49]⟩ : ByteArray), (⟨#[97, 98, 99, 32, 43, 49, 44, 48, 44, 50, 32, 43, 50, 44, 48, 44, 49, 32, 45, 50, 44, 50, 44, 50]⟩ : ByteArray), (⟨#[45, 32, 43]⟩ : ByteArray), (⟨#[45, 32, 45]⟩ : ByteArray), (⟨#[97, 32, 43, 49, 32, 45, 48]⟩ : ByteArray), (⟨#[97, 98, 32, 43, 48, 44, 49, 32, 45, 48, 44, 49]⟩ : ByteArray), (⟨#[98, 99, 32, 43, 49, 44, 50, 32, 43, 50, 44, 48, 32, 45, 50, 44, 50]⟩ : ByteArray), (⟨#[97, 98, 32, 43, 49, 44, 50, 32, 45, 49, 44, 51, 32, 43, 52, 44, 50, 32, 45, 49, 44, 51, 32, 43, 52, 44, 50]⟩ : ByteArray), (⟨#[97, 98, 99, 32, 43, 48, 44, 49, 44, 48, 32, 43, 48, 44, 49, 44, 50, 32, 45, 50, 44, 50, 44, 50]⟩ : ByteArray)] : List ByteArray), Own.mono ho5 (by omega), rfl, all_size (by decide)⟩, E⟩
set_option maxRecDepth 100000 in
theorem open_c (w0 : World) (e : TypeId) (a0 : Option Addr) (c0 : Nat) (cs : List UInt8) (hc : Bytes w0 e (.slice a0 cs.length c0) cs) (hcap : cs.length ≤ c0) : Ret Try.prog 9 #[Value.slice a0 cs.length c0] w0 (fun v w => (∃ rb bv bs, v = .pointer (some ⟨rb, 0, none⟩) ∧ w0.heap.size ≤ rb ∧ Blk w rb 46 [bv, .int .i64 0] ∧ Src w e bv bs rb ∧ bs.length ≤ 2000) ∧ Ext w0 w) := by
  have E := Ext.refl w0
  refine Ret.of (args := [Value.slice a0 cs.length c0]) Try.func9 rfl rfl rfl ?_
  rintro _ rfl
  show Cq _ _ _ _ [(0, Value.slice a0 cs.length c0)] _
  refine Cq.seq ?_
  refine Cq.region ?_
  refine Sq.assign .plain rfl rfl ?_
  refine Sq.nil ?_
  refine Eq.next ?_
  refine Cq.seq ?_
  refine Cq.seq ?_
  refine Cq.region ?_
  refine Sq.move .plain rfl rfl ?_
  refine Sq.lenBytes (hc.ext E) .plain rfl und22 rfl ?_
  refine Sq.gtr .plain rfl rfl rfl ?_
  refine Sq.part (fun c1 => ?_) (fun c1 => ?_)
  · refine Sq.nil ?_
    refine Eq.next ?_
    refine Cq.thn rfl ?_
    refine Cq.region ?_
    refine Sq.move .plain rfl rfl ?_
    refine Sq.cutBytes sl22 hc hcap (by omega) .plain rfl rfl rfl (fun bv0 hbv0 => ?_)
    refine Sq.assign .plain rfl rfl ?_
    refine Sq.nil ?_
    refine Eq.next ?_
    refine Cq.seq ?_
    refine Cq.region ?_
    refine Sq.move .plain rfl rfl ?_
    refine Sq.build st46 rfl rfl .plain rfl rfl (one_cons (Row.one (hbv0.ext E)) one_nil) rfl ?_
    refine Sq.box .plain rfl rfl (fun b2 w3 e4 hB5 hlo6 => ?_)
    have hd7 := Nat.le_trans (Below.size E) hlo6
    have hs8 := Below.size e4
    replace E := E.trans e4
    refine Sq.assign .plain rfl rfl ?_
    refine Sq.nil ?_
    refine Eq.next ?_
    refine Cq.ret ?_
    refine Eq.ret1 rfl rfl ?_
    exact ⟨⟨_, _, (cs.take (2000 : Int).toNat), rfl, by omega, hB5, Src.of hbv0 E (by omega), by rw [List.length_take]; omega⟩, E⟩
  refine Sq.nil ?_
  refine Eq.next ?_
  refine Cq.els rfl ?_
  refine Cq.skip ?_
  refine Eq.next ?_
  refine Cq.seq ?_
  refine Cq.region ?_
  refine Sq.move .plain rfl rfl ?_
  refine Sq.build st46 rfl rfl .plain rfl rfl (one_cons (Row.one (hc.ext E)) one_nil) rfl ?_
  refine Sq.box .plain rfl rfl (fun b9 w10 e11 hB12 hlo13 => ?_)
  have hd14 := Nat.le_trans (Below.size E) hlo13
  have hs15 := Below.size e11
  replace E := E.trans e11
  refine Sq.assign .plain rfl rfl ?_
  refine Sq.nil ?_
  refine Eq.next ?_
  refine Cq.ret ?_
  refine Eq.ret1 rfl rfl ?_
  exact ⟨⟨_, _, cs, rfl, by omega, hB12, Src.of hc E (by omega), by omega⟩, E⟩
set_option maxRecDepth 100000 in
theorem l3Draw_c (w0 : World) (rb : Nat) (bv : Value) (p : Int) (bs : List UInt8) (e0 : TypeId) (hR : Blk w0 rb 46 [bv, .int .i64 p]) (hb : Src w0 e0 bv bs rb) (hbl : bs.length ≤ 2000) (hp : 0 ≤ p ∧ p ≤ 500000000) : Ret Try.prog 22 #[Value.pointer (some ⟨rb, 0, none⟩)] w0 (fun v w => (∃ p', (p ≤ p' ∧ p' ≤ p + 300) ∧ Blk w rb 46 [bv, .int .i64 p'] ∧ w0.grownBy w (some rb)) ∧ ∃ a, RowsA w v a ∧ Small 200 a ∧ 0 ≤ a.al ∧ a.al ≤ 63) := by
  have G := World.grownBy.refl w0 (some rb)
  have hlt := hR.lt
  refine Ret.of (args := [Value.pointer (some ⟨rb, 0, none⟩)]) Try.func22 rfl rfl rfl ?_
  rintro _ rfl
  show Cq _ _ _ _ [(0, Value.pointer (some ⟨rb, 0, none⟩))] _
  refine Cq.seq ?_
  refine Cq.region ?_
  refine Sq.alloc zero26 .plain rfl (fun b1 w2 e3 hB4 hlo5 => ?_)
  have hd6 := Nat.lt_of_lt_of_le hR.lt hlo5
  have hd7 := Nat.le_trans (World.grownBy.size G) hlo5
  have hs8 := Below.size e3
  replace hR := hR.ext e3
  replace G := grown_trans G (Ext.to_grown e3 _)
  refine Sq.nil ?_
  refine Eq.next ?_
  refine Cq.seq ?_
  refine Cq.seq ?_
  refine Cq.region ?_
  refine Sq.move .plain rfl rfl ?_
  refine Sq.call fn19 .plain rfl rfl (pick_c _ _ _ _ _ _ hR (hb.go G) hbl (by omega) 3 (by omega)) ?_
  rintro _ w10 ⟨⟨p11, hp14, hB13, g12⟩, ⟨k15, rfl, hk16⟩⟩
  have hs17 := World.grownBy.size g12
  have hs18 := World.grownBy.size G
  have hs19 := World.grownBy.size g12
  replace G := grown_trans G g12
  replace hB4 := hB4.grown g12 (by intro h; injection h with h; omega)
  replace hR := hB13
  refine Sq.eql .plain rfl rfl rfl ?_
  refine Sq.part (fun c20 => ?_) (fun c20 => ?_)
  · refine Sq.nil ?_
    refine Eq.next ?_
    refine Cq.thn rfl ?_
    refine Cq.seq ?_
    refine Cq.region ?_
    refine Sq.move .plain rfl rfl ?_
    have hd28 := hR.lt
    have hd29 := hB4.lt
    refine Sq.call fn33 .plain rfl rfl (l3Texts_c _) ?_
    rintro v21 w22 ⟨⟨xs24, ho25, hl26, hxs27⟩, e23⟩
    have hs30 := World.grownBy.size G
    have hs31 := Below.size e23
    replace hR := hR.ext e23
    replace G := grown_trans G (Ext.to_grown e23 _)
    replace hB4 := hB4.ext e23
    refine Sq.call fn32 .plain rfl rfl (of_c _ _ _ _ _ _ hR (hb.go G) hbl (by omega) _ xs24 (Own.row ho25) (by first | omega | simp)) ?_
    rintro _ w33 ⟨⟨p34, hp37, hB36, g35⟩, ⟨s38, rfl, hm39⟩⟩
    have hs40 := World.grownBy.size g35
    have hs41 := World.grownBy.size G
    have hs42 := World.grownBy.size g35
    replace G := grown_trans G g35
    replace hB4 := hB4.grown g35 (by intro h; injection h with h; omega)
    replace hR := hB36
    have hd55 := hR.lt
    have hd56 := hB4.lt
    refine Sq.call fn31 .plain rfl rfl (parseA_c s38 (by have := hxs27 _ hm39; omega) _) ?_
    rintro _ w44 ⟨⟨u46, ok47, a48, rfl, ⟨nx49, ac50, rfl, hn51, ha52⟩, hsm53, hal54⟩, e45⟩
    have hs57 := World.grownBy.size G
    have hs58 := Below.size e45
    replace hR := hR.ext e45
    replace G := grown_trans G (Ext.to_grown e45 _)
    replace hB4 := hB4.ext e45
    refine Sq.move .plain rfl rfl ?_
    refine Sq.extract .plain rfl rfl rfl ?_
    refine Sq.extract .plain rfl rfl rfl ?_
    refine Sq.alloc zero26 .plain rfl (fun b59 w60 e61 hB62 hlo63 => ?_)
    have hd64 := Nat.lt_of_lt_of_le hR.lt hlo63
    have hd65 := Nat.le_trans (World.grownBy.size G) hlo63
    have hd66 := Nat.lt_of_lt_of_le hB4.lt hlo63
    have hs67 := Below.size e61
    replace hR := hR.ext e61
    replace G := grown_trans G (Ext.to_grown e61 _)
    replace hB4 := hB4.ext e61
    replace hn51 := hn51.ext e61
    replace ha52 := ha52.ext e61
    refine Sq.storeAgg agg26 .plain rfl rfl (one_cons rfl (one_cons (Rows.one (OwnRows.rows hn51)) (one_cons (Row.one (Own.row ha52)) one_nil))) hB62 rfl rfl (fun w68 g69 hB70 => ?_)
    have hs71 := World.grownBy.size g69
    replace hR := hR.grown g69 (by intro h; injection h with h; omega)
    replace G := grown_far G g69 (fun k hk => by injection hk with hk; subst hk; omega)
    replace hB4 := hB4.grown g69 (by intro h; injection h with h; omega)
    replace hn51 := hn51.stored g69 hB62 (by decide) (by decide)
    replace ha52 := ha52.stored g69 hB62 (by decide)
    replace hB62 := hB70
    refine Sq.assign .plain rfl rfl ?_
    refine Sq.nil ?_
    refine Eq.next ?_
    refine Cq.seq ?_
    refine Cq.region ?_
    refine Sq.move .plain rfl rfl ?_
    refine Sq.partB (fun c72 => ?_) (fun c72 => ?_)
    · refine Sq.nil ?_
      refine Eq.next ?_
      refine Cq.thn rfl ?_
      refine Cq.seq ?_
      refine Cq.region ?_
      refine Sq.loadAgg agg26 .plain rfl rfl hB62 rfl ?_
      refine Sq.storeAgg agg26 .plain rfl rfl (one_cons rfl (one_cons (Rows.one (OwnRows.rows hn51)) (one_cons (Row.one (Own.row ha52)) one_nil))) hB4 rfl rfl (fun w73 g74 hB75 => ?_)
      have hs76 := World.grownBy.size g74
      replace hR := hR.grown g74 (by intro h; injection h with h; omega)
      replace G := grown_far G g74 (fun k hk => by injection hk with hk; subst hk; omega)
      replace hn51 := hn51.stored g74 hB4 (by decide) (by decide)
      replace ha52 := ha52.stored g74 hB4 (by decide)
      replace hB4 := hB75
      refine Sq.nil ?_
      refine Eq.next ?_
      refine Cq.ret ?_
      refine Eq.pastRet ?_
      refine Eq.retCell rfl rfl agg26 hB4 rfl ?_
      exact ⟨⟨_, by omega, hR, G⟩, _, ⟨_, _, rfl, (OwnRows.rows hn51), (Own.row ha52)⟩, by first | exact (Small.of hsm53).mono (by omega) | exact Small.mono hsm53 (by omega) | exact (Small.of hsm53).mono (by omega) | exact Small.mono hsm53 (by omega), by omega⟩
    refine Sq.nil ?_
    refine Eq.next ?_
    refine Cq.els rfl ?_
    refine Cq.skip ?_
    refine Eq.next ?_
    refine Cq.seq ?_
    refine Cq.region ?_
    refine Sq.move .plain rfl rfl ?_
    refine Sq.move .plain rfl rfl ?_
    refine Sq.lit sl38 rfl rfl .plain rfl rfl (one_cons rfl (one_cons rfl (one_cons rfl (one_cons rfl (one_cons rfl (one_cons rfl (one_cons rfl one_nil))))))) (fun b77 w78 e79 hlo80 ho81 _ => ?_)
    replace ho81 := ho81 w68.heap.size (Nat.le_refl _)
    have hs83 := Below.size e79
    replace hR := hR.ext e79
    replace G := grown_trans G (Ext.to_grown e79 _)
    replace hB4 := hB4.ext e79
    refine Sq.call fn11 .plain rfl rfl (num_c _ _ _ _ _ _ hR (hb.go G) hbl (by omega) _ [3, 6, 7, 5, 1, 0, 2] (Own.row ho81) (by simp)) ?_
    rintro _ w85 ⟨⟨p86, hp89, hB88, g87⟩, ⟨k90, rfl, hm91⟩⟩
    have hs92 := World.grownBy.size g87
    have hs93 := World.grownBy.size G
    have hs94 := World.grownBy.size g87
    replace G := grown_trans G g87
    replace hB4 := hB4.grown g87 (by intro h; injection h with h; omega)
    replace hR := hB88
    simp only [List.mem_cons, List.not_mem_nil, or_false] at hm91
    refine Sq.call fn34 .plain rfl rfl (l3Over_c _ _ _ _ _ _ hR (hb.go G) hbl (by omega) k90 (by omega)) ?_
    rintro _ w96 ⟨⟨p97, hp100, hB99, g98⟩, ⟨a101, ⟨nx102, ac103, rfl, hn104, ha105⟩, hv106, hal107⟩⟩
    have hs108 := World.grownBy.size g98
    have hs109 := World.grownBy.size G
    have hs110 := World.grownBy.size g98
    replace G := grown_trans G g98
    replace hB4 := hB4.grown g98 (by intro h; injection h with h; omega)
    replace hR := hB99
    refine Sq.storeAgg agg26 .plain rfl rfl (one_cons rfl (one_cons (Rows.one (OwnRows.rows hn104)) (one_cons (Row.one (Own.row ha105)) one_nil))) hB4 rfl rfl (fun w111 g112 hB113 => ?_)
    have hs114 := World.grownBy.size g112
    replace hR := hR.grown g112 (by intro h; injection h with h; omega)
    replace G := grown_far G g112 (fun k hk => by injection hk with hk; subst hk; omega)
    replace hn104 := hn104.stored g112 hB4 (by decide) (by decide)
    replace ha105 := ha105.stored g112 hB4 (by decide)
    replace hB4 := hB113
    refine Sq.nil ?_
    refine Eq.next ?_
    refine Cq.ret ?_
    refine Eq.retCell rfl rfl agg26 hB4 rfl ?_
    exact ⟨⟨_, by omega, hR, G⟩, _, ⟨_, _, rfl, (OwnRows.rows hn104), (Own.row ha105)⟩, by first | exact (Small.of hv106).mono (by omega) | exact Small.mono hv106 (by omega) | exact (Small.of hsm53).mono (by omega) | exact Small.mono hsm53 (by omega) | exact (Small.of hsm53).mono (by omega) | exact Small.mono hsm53 (by omega), by omega⟩
  refine Sq.nil ?_
  refine Eq.next ?_
  refine Cq.els rfl ?_
  refine Cq.skip ?_
  refine Eq.next ?_
  refine Cq.seq ?_
  refine Cq.region ?_
  refine Sq.move .plain rfl rfl ?_
  refine Sq.move .plain rfl rfl ?_
  refine Sq.lit sl38 rfl rfl .plain rfl rfl (one_cons rfl (one_cons rfl (one_cons rfl (one_cons rfl (one_cons rfl (one_cons rfl (one_cons rfl one_nil))))))) (fun b115 w116 e117 hlo118 ho119 _ => ?_)
  replace ho119 := ho119 w10.heap.size (Nat.le_refl _)
  have hs121 := Below.size e117
  replace hR := hR.ext e117
  replace G := grown_trans G (Ext.to_grown e117 _)
  replace hB4 := hB4.ext e117
  refine Sq.call fn11 .plain rfl rfl (num_c _ _ _ _ _ _ hR (hb.go G) hbl (by omega) _ [3, 6, 7, 5, 1, 0, 2] (Own.row ho119) (by simp)) ?_
  rintro _ w123 ⟨⟨p124, hp127, hB126, g125⟩, ⟨k128, rfl, hm129⟩⟩
  have hs130 := World.grownBy.size g125
  have hs131 := World.grownBy.size G
  have hs132 := World.grownBy.size g125
  replace G := grown_trans G g125
  replace hB4 := hB4.grown g125 (by intro h; injection h with h; omega)
  replace hR := hB126
  simp only [List.mem_cons, List.not_mem_nil, or_false] at hm129
  refine Sq.call fn34 .plain rfl rfl (l3Over_c _ _ _ _ _ _ hR (hb.go G) hbl (by omega) k128 (by omega)) ?_
  rintro _ w134 ⟨⟨p135, hp138, hB137, g136⟩, ⟨a139, ⟨nx140, ac141, rfl, hn142, ha143⟩, hv144, hal145⟩⟩
  have hs146 := World.grownBy.size g136
  have hs147 := World.grownBy.size G
  have hs148 := World.grownBy.size g136
  replace G := grown_trans G g136
  replace hB4 := hB4.grown g136 (by intro h; injection h with h; omega)
  replace hR := hB137
  refine Sq.storeAgg agg26 .plain rfl rfl (one_cons rfl (one_cons (Rows.one (OwnRows.rows hn142)) (one_cons (Row.one (Own.row ha143)) one_nil))) hB4 rfl rfl (fun w149 g150 hB151 => ?_)
  have hs152 := World.grownBy.size g150
  replace hR := hR.grown g150 (by intro h; injection h with h; omega)
  replace G := grown_far G g150 (fun k hk => by injection hk with hk; subst hk; omega)
  replace hn142 := hn142.stored g150 hB4 (by decide) (by decide)
  replace ha143 := ha143.stored g150 hB4 (by decide)
  replace hB4 := hB151
  refine Sq.nil ?_
  refine Eq.next ?_
  refine Cq.ret ?_
  refine Eq.retCell rfl rfl agg26 hB4 rfl ?_
  exact ⟨⟨_, by omega, hR, G⟩, _, ⟨_, _, rfl, (OwnRows.rows hn142), (Own.row ha143)⟩, by first | exact (Small.of hv144).mono (by omega) | exact Small.mono hv144 (by omega) | exact (Small.of hv106).mono (by omega) | exact Small.mono hv106 (by omega) | exact (Small.of hsm53).mono (by omega) | exact Small.mono hsm53 (by omega) | exact (Small.of hsm53).mono (by omega) | exact Small.mono hsm53 (by omega), by omega⟩
set_option maxRecDepth 100000 in
theorem l3Any_c (w0 : World) (rb : Nat) (bv : Value) (p : Int) (bs : List UInt8) (e0 : TypeId) (hR : Blk w0 rb 46 [bv, .int .i64 p]) (hb : Src w0 e0 bv bs rb) (hbl : bs.length ≤ 2000) (hp : 0 ≤ p ∧ p ≤ 400000000) : Ret Try.prog 10 #[Value.pointer (some ⟨rb, 0, none⟩)] w0 (fun v w => (∃ p', (p ≤ p' ∧ p' ≤ p + 400) ∧ Blk w rb 46 [bv, .int .i64 p'] ∧ w0.grownBy w (some rb)) ∧ ∃ a, RowsA w v a ∧ Small 300 a) := by
  have G := World.grownBy.refl w0 (some rb)
  have hlt := hR.lt
  refine Ret.of (args := [Value.pointer (some ⟨rb, 0, none⟩)]) Try.func10 rfl rfl rfl ?_
  rintro _ rfl
  show Cq _ _ _ _ [(0, Value.pointer (some ⟨rb, 0, none⟩))] _
  refine Cq.seq ?_
  refine Cq.region ?_
  refine Sq.alloc zero26 .plain rfl (fun b1 w2 e3 hB4 hlo5 => ?_)
  have hd6 := Nat.lt_of_lt_of_le hR.lt hlo5
  have hd7 := Nat.le_trans (World.grownBy.size G) hlo5
  have hs8 := Below.size e3
  replace hR := hR.ext e3
  replace G := grown_trans G (Ext.to_grown e3 _)
  refine Sq.nil ?_
  refine Eq.next ?_
  refine Cq.seq ?_
  refine Cq.seq ?_
  refine Cq.region ?_
  refine Sq.move .plain rfl rfl ?_
  refine Sq.call fn19 .plain rfl rfl (pick_c _ _ _ _ _ _ hR (hb.go G) hbl (by omega) 12 (by omega)) ?_
  rintro _ w10 ⟨⟨p11, hp14, hB13, g12⟩, ⟨k15, rfl, hk16⟩⟩
  have hs17 := World.grownBy.size g12
  have hs18 := World.grownBy.size G
  have hs19 := World.grownBy.size g12
  replace G := grown_trans G g12
  replace hB4 := hB4.grown g12 (by intro h; injection h with h; omega)
  replace hR := hB13
  refine Sq.eql .plain rfl rfl rfl ?_
  refine Sq.part (fun c20 => ?_) (fun c20 => ?_)
  · refine Sq.nil ?_
    refine Eq.next ?_
    refine Cq.thn rfl ?_
    refine Cq.seq ?_
    refine Cq.region ?_
    refine Sq.move .plain rfl rfl ?_
    refine Sq.call fn20 .plain rfl rfl (l3Big_c _ _ _ _ _ _ hR (hb.go G) hbl (by omega) ) ?_
    rintro _ w22 ⟨⟨p23, hp26, hB25, g24⟩, ⟨a27, ⟨nx28, ac29, rfl, hn30, ha31⟩, hv32⟩⟩
    have hs33 := World.grownBy.size g24
    have hs34 := World.grownBy.size G
    have hs35 := World.grownBy.size g24
    replace G := grown_trans G g24
    replace hB4 := hB4.grown g24 (by intro h; injection h with h; omega)
    replace hR := hB25
    refine Sq.storeAgg agg26 .plain rfl rfl (one_cons rfl (one_cons (Rows.one (OwnRows.rows hn30)) (one_cons (Row.one (Own.row ha31)) one_nil))) hB4 rfl rfl (fun w36 g37 hB38 => ?_)
    have hs39 := World.grownBy.size g37
    replace hR := hR.grown g37 (by intro h; injection h with h; omega)
    replace G := grown_far G g37 (fun k hk => by injection hk with hk; subst hk; omega)
    replace hn30 := hn30.stored g37 hB4 (by decide) (by decide)
    replace ha31 := ha31.stored g37 hB4 (by decide)
    replace hB4 := hB38
    refine Sq.nil ?_
    refine Eq.next ?_
    refine Cq.ret ?_
    refine Eq.pastRet ?_
    refine Eq.retCell rfl rfl agg26 hB4 rfl ?_
    exact ⟨⟨_, by omega, hR, G⟩, _, ⟨_, _, rfl, (OwnRows.rows hn30), (Own.row ha31)⟩, by first | exact (Small.of hv32).mono (by omega) | exact Small.mono hv32 (by omega)⟩
  refine Sq.nil ?_
  refine Eq.next ?_
  refine Cq.els rfl ?_
  refine Cq.skip ?_
  refine Eq.next ?_
  refine Cq.seq ?_
  refine Cq.region ?_
  refine Sq.move .plain rfl rfl ?_
  refine Sq.move .plain rfl rfl ?_
  refine Sq.call fn22 .plain rfl rfl (l3Draw_c _ _ _ _ _ _ hR (hb.go G) hbl (by omega) ) ?_
  rintro _ w41 ⟨⟨p42, hp45, hB44, g43⟩, ⟨a46, ⟨nx47, ac48, rfl, hn49, ha50⟩, hv51, hal52⟩⟩
  have hs53 := World.grownBy.size g43
  have hs54 := World.grownBy.size G
  have hs55 := World.grownBy.size g43
  replace G := grown_trans G g43
  replace hB4 := hB4.grown g43 (by intro h; injection h with h; omega)
  replace hR := hB44
  refine Sq.call fn21 .plain rfl rfl (l3Wrong_c _ _ _ _ _ _ hR (hb.go G) hbl (by omega) a46 _ _ hn49 ha50 _ (by omega) hv51) ?_
  rintro _ w57 ⟨⟨p58, hp61, hB60, g59⟩, ⟨a62, ⟨nx63, ac64, rfl, hn65, ha66⟩, hv67⟩⟩
  have hs68 := World.grownBy.size g59
  have hs69 := World.grownBy.size G
  have hs70 := World.grownBy.size g59
  replace G := grown_trans G g59
  replace hB4 := hB4.grown g59 (by intro h; injection h with h; omega)
  replace hR := hB60
  refine Sq.storeAgg agg26 .plain rfl rfl (one_cons rfl (one_cons (Rows.one hn65) (one_cons (Row.one ha66) one_nil))) hB4 rfl rfl (fun w71 g72 hB73 => ?_)
  have hs74 := World.grownBy.size g72
  replace hR := hR.grown g72 (by intro h; injection h with h; omega)
  replace G := grown_far G g72 (fun k hk => by injection hk with hk; subst hk; omega)
  replace hn65 := hn65.stored g72 hB4 (by decide) (by decide)
  replace ha66 := ha66.stored g72 hB4 (by decide)
  replace hB4 := hB73
  refine Sq.nil ?_
  refine Eq.next ?_
  refine Cq.ret ?_
  refine Eq.retCell rfl rfl agg26 hB4 rfl ?_
  exact ⟨⟨_, by omega, hR, G⟩, _, ⟨_, _, rfl, hn65, ha66⟩, by first | exact (Small.of hv67).mono (by omega) | exact Small.mono hv67 (by omega) | exact (Small.of hv51).mono (by omega) | exact Small.mono hv51 (by omega) | exact (Small.of hv32).mono (by omega) | exact Small.mono hv32 (by omega)⟩
end Go.Proofs.Ytpnelflmecchlaa
set_option linter.unusedSimpArgs false
set_option linter.unusedVariables false
namespace Go.Proofs.Ytpnelflmecchlaa
open Go.RowKit
set_option maxRecDepth 100000 in
theorem drawCount_c (w0 : World) (e : TypeId) (a0 : Option Addr) (c0 : Nat) (cs : List UInt8) (hc : Bytes w0 e (.slice a0 cs.length c0) cs) (hcap : cs.length ≤ c0) : Ret Try.prog 4 #[Value.slice a0 cs.length c0] w0 (fun v w => (∃ (u : Value) (k : Int) (a : A), v = .tuple #[u, .int .i64 k] ∧ RowsA w u a ∧ Small 400 a ∧ -1 ≤ k ∧ k ≤ 8) ∧ Ext w0 w) := by
  have E := Ext.refl w0
  refine Ret.of (args := [Value.slice a0 cs.length c0]) Try.func4 rfl rfl rfl ?_
  rintro _ rfl
  show Cq _ _ _ _ [(0, Value.slice a0 cs.length c0)] _
  refine Cq.seq ?_
  refine Cq.region ?_
  refine Sq.alloc zero26 .plain rfl (fun b1 w2 e3 hB4 hlo5 => ?_)
  have hd6 := Nat.le_trans (Below.size E) hlo5
  have hs7 := Below.size e3
  replace E := E.trans e3
  refine Sq.assign .plain rfl rfl ?_
  refine Sq.nil ?_
  refine Eq.next ?_
  refine Cq.seq ?_
  refine Cq.region ?_
  refine Sq.move .plain rfl rfl ?_
  refine Sq.call fn9 .plain rfl rfl (open_c _ _ _ _ _ (hc.ext E) hcap) ?_
  rintro _ w8 ⟨⟨rb, bv, bs, rfl, hrb, hR, hb, hbl⟩, e9⟩
  have hrlt := hR.lt
  have hd10 := Nat.le_trans (Below.size E) hrb
  have hd11 := Nat.lt_of_lt_of_le hB4.lt hrb
  have hs12 := Below.size e9
  replace E := E.trans e9
  replace hB4 := hB4.ext e9
  have G := World.grownBy.refl w8 (some rb)
  refine Sq.assign .plain rfl rfl ?_
  refine Sq.nil ?_
  refine Eq.next ?_
  refine Cq.seq ?_
  refine Cq.region ?_
  refine Sq.move .plain rfl rfl ?_
  refine Sq.call fn10 .plain rfl rfl (l3Any_c _ _ _ _ _ _ hR (hb.go G) hbl (by omega) ) ?_
  rintro _ w14 ⟨⟨p15, hp18, hB17, g16⟩, ⟨a19, ⟨nx20, ac21, rfl, hn22, ha23⟩, hv24⟩⟩
  have hs25 := World.grownBy.size g16
  have hs26 := Below.size E
  have hs27 := World.grownBy.size G
  have hs28 := World.grownBy.size g16
  replace E := E.grown g16 (fun k hk => by injection hk with hk; subst hk; omega)
  replace hB4 := hB4.grown g16 (by intro h; injection h with h; omega)
  replace G := grown_trans G g16
  replace hR := hB17
  refine Sq.move .plain rfl rfl ?_
  refine Sq.lit sl38 rfl rfl .plain rfl rfl (one_cons rfl (one_cons rfl (one_cons rfl (one_cons rfl (one_cons rfl (one_cons rfl (one_cons rfl (one_cons rfl one_nil)))))))) (fun b29 w30 e31 hlo32 ho33 _ => ?_)
  replace ho33 := ho33 w14.heap.size (Nat.le_refl _)
  have hs35 := Below.size e31
  replace E := E.trans e31
  replace hB4 := hB4.ext e31
  replace hR := hR.ext e31
  replace G := grown_trans G (Ext.to_grown e31 _)
  replace hn22 := hn22.ext e31
  replace ha23 := ha23.ext e31
  refine Sq.call fn11 .plain rfl rfl (num_c _ _ _ _ _ _ hR (hb.go G) hbl (by omega) _ [3, 2, 4, 1, 0, 7, 8, -1] (Own.row ho33) (by simp)) ?_
  rintro _ w37 ⟨⟨p38, hp41, hB40, g39⟩, ⟨k42, rfl, hm43⟩⟩
  have hs44 := World.grownBy.size g39
  have hs45 := Below.size E
  have hs46 := World.grownBy.size G
  have hs47 := World.grownBy.size g39
  replace E := E.grown g39 (fun k hk => by injection hk with hk; subst hk; omega)
  replace hB4 := hB4.grown g39 (by intro h; injection h with h; omega)
  replace hn22 := hn22.stored g39 hR (by decide) (by decide)
  replace ha23 := ha23.stored g39 hR (by decide)
  simp only [List.mem_cons, List.not_mem_nil, or_false] at hm43
  refine Sq.storeAgg agg26 .plain rfl rfl (one_cons rfl (one_cons (Rows.one hn22) (one_cons (Row.one ha23) one_nil))) hB4 rfl rfl (fun w48 g49 hB50 => ?_)
  have hs51 := World.grownBy.size g49
  replace E := E.grown g49 (fun k hk => by injection hk with hk; subst hk; omega)
  replace hn22 := hn22.stored g49 hB4 (by decide) (by decide)
  replace ha23 := ha23.stored g49 hB4 (by decide)
  replace hB4 := hB50
  refine Sq.assign .plain rfl rfl ?_
  refine Sq.nil ?_
  refine Eq.next ?_
  refine Cq.ret ?_
  refine Eq.retCell2 rfl rfl agg26 hB4 rfl rfl ?_
  exact ⟨⟨_, _, _, rfl, ⟨_, _, rfl, hn22, ha23⟩, by first | exact (Small.of hv24).mono (by omega) | exact Small.mono hv24 (by omega), by omega⟩, E⟩
end Go.Proofs.Ytpnelflmecchlaa
set_option linter.unusedSimpArgs false
set_option linter.unusedVariables false
namespace Go.Proofs.Ytpnelflmecchlaa
open Go.RowKit
set_option maxRecDepth 100000 in
theorem count_c (w0 : World) (a : A) (nx ac : Value) (hnx : Rows w0 38 3 nx a.next) (hac : Bools w0 4 ac a.acc) (n : Int) (hnb : -1000 ≤ n ∧ n ≤ 1000) : Ret Try.prog 5 #[Value.agg #[Value.int .i64 a.al, nx, ac], Value.int .i64 n] w0 (fun v w => v = .int .i64 (count a n) ∧ Ext w0 w) := by
  have E := Ext.refl w0
  refine Ret.of (args := [Value.agg #[Value.int .i64 a.al, nx, ac], Value.int .i64 n]) Try.func5 rfl rfl rfl ?_
  rintro _ rfl
  show Cq _ _ _ _ [(0, Value.agg #[Value.int .i64 a.al, nx, ac]), (1, Value.int .i64 n)] _
  refine Cq.seq ?_
  refine Cq.region ?_
  refine Sq.box .plain rfl rfl (fun b1 w2 e3 hB4 hlo5 => ?_)
  have hd6 := Nat.le_trans (Below.size E) hlo5
  have hs7 := Below.size e3
  replace E := E.trans e3
  refine Sq.assign .plain rfl rfl ?_
  refine Sq.nil ?_
  refine Eq.next ?_
  refine Cq.seq ?_
  refine Cq.seq ?_
  refine Cq.region ?_
  refine Sq.loadAgg agg26 .plain rfl rfl hB4 rfl ?_
  have hd11 := hB4.lt
  refine Sq.call fn12 .plain rfl rfl (valid_c _ a _ _ (hnx.ext E) (hac.ext E)) ?_
  rintro _ w9 ⟨rfl, e10⟩
  have hs12 := Below.size E
  have hs13 := Below.size e10
  replace E := E.trans e10
  replace hB4 := hB4.ext e10
  refine Sq.partB (fun hv => ?_) (fun hv => ?_)
  · refine Sq.notT .plain rfl rfl ?_
    refine Sq.move .plain rfl rfl ?_
    refine Sq.move (.met rfl rfl rfl) rfl rfl ?_
    refine Sq.lss (.met rfl rfl rfl) rfl rfl rfl ?_
    refine Sq.part (fun c14 => ?_) (fun c14 => ?_)
    · refine Sq.pickF .plain rfl rfl rfl ?_
      refine Sq.move .plain rfl rfl ?_
      refine Sq.off rfl rfl rfl rfl rfl rfl ?_
      refine Sq.off rfl rfl rfl rfl rfl rfl ?_
      refine Sq.pickT .plain rfl rfl rfl ?_
      refine Sq.nil ?_
      refine Eq.next ?_
      refine Cq.thn rfl ?_
      refine Cq.seq ?_
      refine Cq.region ?_
      refine Sq.assign .plain rfl rfl ?_
      refine Sq.nil ?_
      refine Eq.next ?_
      refine Cq.ret ?_
      refine Eq.pastRet ?_
      refine Eq.ret1 rfl rfl ?_
      exact ⟨by rw [count_bad (by omega)], E⟩
    refine Sq.pickF .plain rfl rfl rfl ?_
    refine Sq.move .plain rfl rfl ?_
    refine Sq.move (.met rfl rfl rfl) rfl rfl ?_
    refine Sq.gtr (.met rfl rfl rfl) rfl rfl rfl ?_
    refine Sq.part (fun c15 => ?_) (fun c15 => ?_)
    · refine Sq.pickF .plain rfl rfl rfl ?_
      refine Sq.nil ?_
      refine Eq.next ?_
      refine Cq.thn rfl ?_
      refine Cq.seq ?_
      refine Cq.region ?_
      refine Sq.assign .plain rfl rfl ?_
      refine Sq.nil ?_
      refine Eq.next ?_
      refine Cq.ret ?_
      refine Eq.pastRet ?_
      refine Eq.ret1 rfl rfl ?_
      exact ⟨by rw [count_bad (by omega)], E⟩
    refine Sq.pickF .plain rfl rfl rfl ?_
    refine Sq.nil ?_
    refine Eq.next ?_
    refine Cq.els rfl ?_
    refine Cq.skip ?_
    refine Eq.next ?_
    refine Cq.seq ?_
    refine Cq.region ?_
    have hvs := validA_spec.1 hv
    have hv1 := hvs.2.1
    have hv2 := hvs.2.2.1
    refine Sq.fieldAddr fld26_1 .plain rfl rfl ?_
    refine Sq.loadB one23 .plain rfl rfl hB4 rfl ?_
    refine Sq.lenRows (hnx.ext E) .plain rfl und23 rfl ?_
    refine Sq.make sl38 .plain rfl rfl rfl rfl (by omega) (fun b16 w17 e18 hlo19 hB20 => ?_)
    replace hB20 := hB20 w9.heap.size (Nat.le_refl _)
    have hs21 := Below.size e18
    replace E := E.trans e18
    replace hB4 := hB4.ext e18
    refine Sq.assign .plain rfl rfl ?_
    refine Sq.nil ?_
    refine Eq.next ?_
    refine Cq.seq ?_
    refine Cq.region ?_
    refine Sq.move .plain rfl rfl ?_
    obtain ⟨p22, hp23o⟩ := Own.at hB20 (i := 0) (by omega) (by first | (simp only [List.length_map]; omega) | (simp; omega))
    refine Sq.atO sl38 hp23o .plain rfl rfl rfl ?_
    refine Sq.storeO one3 hB20 hp23o .plain rfl rfl rfl (fun w24 g25 ho26 => ?_)
    have hs27 := World.grownBy.size g25
    replace E := E.owned hB20 g25 (by omega)
    replace hB4 := hB4.owned hB20 g25 (by decide)
    replace hB20 := ho26
    refine Sq.nil ?_
    refine Eq.next ?_
    refine Cq.seq ?_
    refine Cq.region ?_
    refine Sq.assign .plain rfl rfl ?_
    refine Sq.nil ?_
    refine Eq.next ?_
    refine Cq.seq ?_
    refine Cq.region ?_
    refine Sq.assign .plain rfl rfl ?_
    refine Sq.nil ?_
    refine Eq.next ?_
    refine Cq.block ?_
    refine Cq.loop (fun nn w ls => ∃ (i : Int), ∃ (T : Int), ∃ (cv : Value), ∃ (cs : List Int), ls = [(2, Value.pointer (some ⟨b1, 0, none⟩)), (1, Value.int .i64 n), (5, cv), (6, Value.int .i64 T), (7, Value.int .i64 i)] ∧ (0 ≤ i ∧ i ≤ n) ∧ Own w w0.heap.size 3 cv (cs.map (Value.int .i64)) ∧ (cs.length = a.next.length ∧ InB cs (72 ^ (i).toNat) ∧ 0 ≤ T ∧ T ≤ 72 ^ (i).toNat) ∧ T + cnt a (n.toNat - (i).toNat) cs = count a n ∧ Ext w0 w ∧ Blk w b1 26 [Value.int .i64 a.al, nx, ac] ∧ nn = (n - i).toNat) _ _ ⟨0, 0, _, start a, rfl, by omega, Own.startI hB20 (by omega), ⟨start_length a, start_in, by omega, by decide⟩, by rw [count_good hv (by omega)]; simp, E, hB4, rfl⟩ (.cons rfl (.cons rfl (.cons rfl (.cons rfl (.cons rfl (.nil)))))) ?_
    rintro nn wl1 ls ⟨i, T, cv, cs, rfl, hi, hcv, hcl, hT, E, hB4, rfl⟩
    have hs28 := Below.size E
    have hlow := Own.low hcv
    refine Cq.seq ?_
    refine Cq.block ?_
    refine Cq.seq ?_
    refine Cq.region ?_
    refine Sq.fieldAddr fld26_1 .plain rfl rfl ?_
    refine Sq.loadB one23 .plain rfl rfl hB4 rfl ?_
    refine Sq.lenRows (hnx.ext E) .plain rfl und23 rfl ?_
    refine Sq.make sl38 .plain rfl rfl rfl rfl (by omega) (fun b29 w30 e31 hlo32 hB33 => ?_)
    replace hB33 := hB33 wl1.heap.size (Nat.le_refl _)
    have hs34 := Below.size e31
    replace E := E.trans e31
    replace hB4 := hB4.ext e31
    replace hcv := hcv.ext e31
    refine Sq.assign .plain rfl rfl ?_
    refine Sq.nil ?_
    refine Eq.next ?_
    refine Cq.seq ?_
    refine Cq.seq ?_
    refine Cq.region ?_
    refine Sq.move .plain rfl rfl ?_
    refine Sq.lenInts (Own.row hcv) .plain rfl und38 rfl ?_
    refine Sq.move .plain rfl rfl ?_
    refine Sq.nil ?_
    refine Eq.next ?_
    refine Cq.block ?_
    refine Cq.loop (fun nn w ls => ∃ (q : Int), ∃ (S : Int), ls = [(2, Value.pointer (some ⟨b1, 0, none⟩)), (1, Value.int .i64 n), (7, Value.int .i64 i), (5, cv), (6, Value.int .i64 S), (8, Value.slice (some ⟨b29, 0, none⟩) (List.length a.next : Int).toNat (List.length a.next : Int).toNat), (36, cv), (37, Value.int .i64 (List.length cs : Int)), (38, Value.int .i64 q)] ∧ (0 ≤ q ∧ q ≤ a.next.length) ∧ S = T + sumTo a cs q.toNat ∧ wl1.heap.size ≤ w.heap.size ∧ Own w wl1.heap.size 3 (Value.slice (some ⟨b29, 0, none⟩) (List.length a.next : Int).toNat (List.length a.next : Int).toNat) ((stepTo a cs q.toNat).map (Value.int .i64)) ∧ Ext w0 w ∧ Blk w b1 26 [Value.int .i64 a.al, nx, ac] ∧ Own w w0.heap.size 3 cv (cs.map (Value.int .i64)) ∧ nn = ((a.next.length : Int) - q).toNat) _ _ ⟨0, _, rfl, by omega, by simp [sumTo], by omega, Own.rep hB33, E, hB4, hcv, rfl⟩ (.cons rfl (.cons rfl (.cons rfl (.cons rfl (.cons rfl (.cons rfl (.cons rfl (.cons rfl (.cons rfl (.nil)))))))))) ?_
    rintro nn wl2 ls ⟨q, S, rfl, hq, hS, hsz, hny, E, hB4, hcv, rfl⟩
    have hs35 := Below.size E
    have hroom0 := cnt_room hv hcl.2.1 (by omega) (q := q.toNat) (by omega) (Nat.zero_le _) 0
    have hsr := sum_room (a := a) hcl.2.1 (by omega) hcl.2.2 (q := q.toNat) (by omega)
    have hr6 := valid_row6 hv (k := q.toNat)
    refine Cq.seq ?_
    refine Cq.region ?_
    refine Sq.lss .plain rfl rfl rfl ?_
    refine Sq.part (fun c36 => ?_) (fun c36 => ?_)
    · refine Sq.nil ?_
      refine Eq.next ?_
      refine Cq.seq ?_
      refine Cq.thn rfl ?_
      refine Cq.skip ?_
      refine Eq.next ?_
      refine Cq.seq ?_
      refine Cq.block ?_
      refine Cq.seq ?_
      refine Cq.region ?_
      refine Sq.move .plain rfl rfl ?_
      refine Sq.idxInts sl38 one3 (Own.row hcv) .plain rfl rfl rfl .plain rfl rfl (by omega) (by omega) ?_
      refine Sq.assign .plain rfl rfl ?_
      refine Sq.assign .plain rfl rfl ?_
      refine Sq.nil ?_
      refine Eq.next ?_
      refine Cq.seq ?_
      refine Cq.seq ?_
      refine Cq.region ?_
      refine Sq.fieldAddr fld26_2 .plain rfl rfl ?_
      refine Sq.loadB one24 .plain rfl rfl hB4 rfl ?_
      refine Sq.move .plain rfl rfl ?_
      refine Sq.idxBools sl24 one4 (hac.ext E) .plain rfl rfl rfl .plain rfl rfl (by omega) (by omega) ?_
      refine Sq.partB (fun hac => ?_) (fun hac => ?_)
      · refine Sq.nil ?_
        refine Eq.next ?_
        refine Cq.thn rfl ?_
        refine Cq.region ?_
        refine Sq.move .plain rfl rfl ?_
        refine Sq.move .plain rfl rfl ?_
        refine Sq.add .plain rfl rfl rfl (by omega) ?_
        refine Sq.assign .plain rfl rfl ?_
        refine Sq.nil ?_
        refine Eq.next ?_
        refine Cq.seq ?_
        refine Cq.region ?_
        refine Sq.fieldAddr fld26_1 .plain rfl rfl ?_
        refine Sq.loadB one23 .plain rfl rfl hB4 rfl ?_
        refine Sq.move .plain rfl rfl ?_
        obtain ⟨p37, r39, hp38, hr40⟩ := Rows.at hnx (i := q) (by omega) (by omega)
        replace hp38 := hp38.ext E
        refine Sq.val .plain rfl rfl (Still.at' sl23 hp38 rfl rfl) ?_
        refine Sq.val .plain rfl rfl (Still.loadA one38 rfl hp38.1) ?_
        refine Sq.lenInts (hr40.ext E) .plain rfl und38 rfl ?_
        refine Sq.move .plain rfl rfl ?_
        refine Sq.nil ?_
        refine Eq.next ?_
        refine Cq.block ?_
        refine Cq.loop (fun nn w ls => ∃ (k : Int), ls = [(2, Value.pointer (some ⟨b1, 0, none⟩)), (1, Value.int .i64 n), (7, Value.int .i64 i), (5, cv), (6, Value.int .i64 (S + (cs.getD q.toNat 0))), (8, Value.slice (some ⟨b29, 0, none⟩) (List.length a.next : Int).toNat (List.length a.next : Int).toNat), (36, cv), (37, Value.int .i64 (List.length cs : Int)), (38, Value.int .i64 q), (9, Value.int .i64 q), (10, Value.int .i64 (cs.getD q.toNat 0)), (55, r39), (56, Value.int .i64 ((List.length (a.next.getD q.toNat []) : Int))), (47, Value.bool true), (57, Value.int .i64 k)] ∧ (0 ≤ k ∧ k ≤ (a.next.getD q.toNat []).length) ∧ wl1.heap.size ≤ w.heap.size ∧ Own w wl1.heap.size 3 (Value.slice (some ⟨b29, 0, none⟩) (List.length a.next : Int).toNat (List.length a.next : Int).toNat) ((addTo (a.next.getD q.toNat []) (cs.getD q.toNat 0) k.toNat (stepTo a cs q.toNat)).map (Value.int .i64)) ∧ Ext w0 w ∧ Blk w b1 26 [Value.int .i64 a.al, nx, ac] ∧ Own w w0.heap.size 3 cv (cs.map (Value.int .i64)) ∧ nn = (((a.next.getD q.toNat []).length : Int) - k).toNat) _ _ ⟨0, rfl, by omega, by omega, by exact hny, E, hB4, hcv, rfl⟩ (.cons rfl (.cons rfl (.cons rfl (.cons rfl (.cons rfl (.cons rfl (.cons rfl (.cons rfl (.cons rfl (.cons rfl (.cons rfl (.cons rfl (.cons rfl (.cons rfl (.cons rfl (.nil)))))))))))))))) ?_
        rintro nn wl3 ls ⟨k, rfl, hk, hsz2, hnk, E, hB4, hcv, rfl⟩
        have hs41 := Below.size E
        have hroom := cnt_room hv hcl.2.1 (by omega) (q := q.toNat) (by omega) (k := k.toNat) (by omega) ((a.next.getD q.toNat []).getD k.toNat 0).toNat
        have hvt := valid_at hv (k := q.toNat) (j := k.toNat)
        have hal : (addTo (a.next.getD q.toNat []) (cs.getD q.toNat 0) k.toNat (stepTo a cs q.toNat)).length = a.next.length := by rw [addTo_length, stepTo_length]
        refine Cq.seq ?_
        refine Cq.region ?_
        refine Sq.lss .plain rfl rfl rfl ?_
        refine Sq.part (fun c42 => ?_) (fun c42 => ?_)
        · refine Sq.nil ?_
          refine Eq.next ?_
          refine Cq.seq ?_
          refine Cq.thn rfl ?_
          refine Cq.skip ?_
          refine Eq.next ?_
          refine Cq.seq ?_
          refine Cq.block ?_
          refine Cq.seq ?_
          refine Cq.region ?_
          refine Sq.idxInts sl38 one3 (hr40.ext E) .plain rfl rfl rfl .plain rfl rfl (by omega) (by omega) ?_
          refine Sq.assign .plain rfl rfl ?_
          refine Sq.nil ?_
          refine Eq.next ?_
          refine Cq.region ?_
          refine Sq.move .plain rfl rfl ?_
          refine Sq.move .plain rfl rfl ?_
          refine Sq.idxInts sl38 one3 (Own.row hnk) .plain rfl rfl rfl .plain rfl rfl (by have := hvt (by omega) (by omega); omega) (by have := hvt (by omega) (by omega); omega) ?_
          refine Sq.move .plain rfl rfl ?_
          refine Sq.add .plain rfl rfl rfl (by omega) ?_
          obtain ⟨p43, hp44o⟩ := Own.at hnk (i := (a.next.getD q.toNat []).getD k.toNat 0) (by have := hvt (by omega) (by omega); omega) (by first | (simp only [List.length_map]; have := hvt (by omega) (by omega); omega) | (simp; have := hvt (by omega) (by omega); omega))
          refine Sq.atO sl38 hp44o .plain rfl rfl rfl ?_
          refine Sq.storeO one3 hnk hp44o .plain rfl rfl rfl (fun w45 g46 ho47 => ?_)
          have hs48 := World.grownBy.size g46
          replace E := E.owned hnk g46 (by omega)
          replace hB4 := hB4.owned hnk g46 (by decide)
          replace hcv := hcv.apart hlow hnk g46 (by omega)
          replace hnk := ho47
          refine Sq.nil ?_
          refine Eq.end ?_
          refine Eq.next ?_
          refine Cq.region ?_
          refine Sq.add .plain rfl rfl rfl (by omega) ?_
          refine Sq.move .plain rfl rfl ?_
          refine Sq.nil ?_
          have e1 := toNat_succ hk.1
          refine Eq.round _ _ ⟨k + 1, rfl, by omega, by omega, by rw [e1, addTo_succ (by omega)]; exact Own.setI hnk, E, hB4, hcv, rfl⟩ (by omega) (.cons rfl (.cons rfl (.cons rfl (.cons rfl (.cons rfl (.cons rfl (.cons rfl (.cons rfl (.cons rfl (.cons rfl (.cons rfl (.cons rfl (.cons rfl (.cons rfl (.cons rfl (.nil))))))))))))))))
        refine Sq.nil ?_
        refine Eq.next ?_
        refine Cq.seq ?_
        refine Cq.els rfl ?_
        refine Cq.exit ?_
        refine Eq.past ?_
        refine Eq.past ?_
        refine Eq.hit ?_
        refine Eq.end ?_
        refine Eq.next ?_
        refine Cq.region ?_
        refine Sq.add .plain rfl rfl rfl (by omega) ?_
        refine Sq.move .plain rfl rfl ?_
        refine Sq.nil ?_
        have e1 := toNat_succ hq.1
        have e2 := sumTo_succ a cs q.toNat
        rw [hac] at e2
        simp only [if_true] at e2
        refine Eq.round _ _ ⟨q + 1, _, rfl, by omega, by rw [e1, e2, hS]; omega, by omega, by rw [e1, stepTo_succ, ← addTo_done (k := k.toNat) (by omega)]; exact hnk, E, hB4, hcv, rfl⟩ (by omega) (.cons rfl (.cons rfl (.cons rfl (.cons rfl (.cons rfl (.cons rfl (.cons rfl (.cons rfl (.cons rfl (.nil))))))))))
      refine Sq.nil ?_
      refine Eq.next ?_
      refine Cq.els rfl ?_
      refine Cq.skip ?_
      refine Eq.next ?_
      refine Cq.seq ?_
      refine Cq.region ?_
      refine Sq.fieldAddr fld26_1 .plain rfl rfl ?_
      refine Sq.loadB one23 .plain rfl rfl hB4 rfl ?_
      refine Sq.move .plain rfl rfl ?_
      obtain ⟨p49, r51, hp50, hr52⟩ := Rows.at hnx (i := q) (by omega) (by omega)
      replace hp50 := hp50.ext E
      refine Sq.val .plain rfl rfl (Still.at' sl23 hp50 rfl rfl) ?_
      refine Sq.val .plain rfl rfl (Still.loadA one38 rfl hp50.1) ?_
      refine Sq.lenInts (hr52.ext E) .plain rfl und38 rfl ?_
      refine Sq.move .plain rfl rfl ?_
      refine Sq.nil ?_
      refine Eq.next ?_
      refine Cq.block ?_
      refine Cq.loop (fun nn w ls => ∃ (k : Int), ls = [(2, Value.pointer (some ⟨b1, 0, none⟩)), (1, Value.int .i64 n), (7, Value.int .i64 i), (5, cv), (6, Value.int .i64 S), (8, Value.slice (some ⟨b29, 0, none⟩) (List.length a.next : Int).toNat (List.length a.next : Int).toNat), (36, cv), (37, Value.int .i64 (List.length cs : Int)), (38, Value.int .i64 q), (9, Value.int .i64 q), (10, Value.int .i64 (cs.getD q.toNat 0)), (55, r51), (56, Value.int .i64 ((List.length (a.next.getD q.toNat []) : Int))), (47, Value.bool false), (57, Value.int .i64 k)] ∧ (0 ≤ k ∧ k ≤ (a.next.getD q.toNat []).length) ∧ wl1.heap.size ≤ w.heap.size ∧ Own w wl1.heap.size 3 (Value.slice (some ⟨b29, 0, none⟩) (List.length a.next : Int).toNat (List.length a.next : Int).toNat) ((addTo (a.next.getD q.toNat []) (cs.getD q.toNat 0) k.toNat (stepTo a cs q.toNat)).map (Value.int .i64)) ∧ Ext w0 w ∧ Blk w b1 26 [Value.int .i64 a.al, nx, ac] ∧ Own w w0.heap.size 3 cv (cs.map (Value.int .i64)) ∧ nn = (((a.next.getD q.toNat []).length : Int) - k).toNat) _ _ ⟨0, rfl, by omega, by omega, by exact hny, E, hB4, hcv, rfl⟩ (.cons rfl (.cons rfl (.cons rfl (.cons rfl (.cons rfl (.cons rfl (.cons rfl (.cons rfl (.cons rfl (.cons rfl (.cons rfl (.cons rfl (.cons rfl (.cons rfl (.cons rfl (.nil)))))))))))))))) ?_
      rintro nn wl3 ls ⟨k, rfl, hk, hsz2, hnk, E, hB4, hcv, rfl⟩
      have hs53 := Below.size E
      have hroom := cnt_room hv hcl.2.1 (by omega) (q := q.toNat) (by omega) (k := k.toNat) (by omega) ((a.next.getD q.toNat []).getD k.toNat 0).toNat
      have hvt := valid_at hv (k := q.toNat) (j := k.toNat)
      have hal : (addTo (a.next.getD q.toNat []) (cs.getD q.toNat 0) k.toNat (stepTo a cs q.toNat)).length = a.next.length := by rw [addTo_length, stepTo_length]
      refine Cq.seq ?_
      refine Cq.region ?_
      refine Sq.lss .plain rfl rfl rfl ?_
      refine Sq.part (fun c54 => ?_) (fun c54 => ?_)
      · refine Sq.nil ?_
        refine Eq.next ?_
        refine Cq.seq ?_
        refine Cq.thn rfl ?_
        refine Cq.skip ?_
        refine Eq.next ?_
        refine Cq.seq ?_
        refine Cq.block ?_
        refine Cq.seq ?_
        refine Cq.region ?_
        refine Sq.idxInts sl38 one3 (hr52.ext E) .plain rfl rfl rfl .plain rfl rfl (by omega) (by omega) ?_
        refine Sq.assign .plain rfl rfl ?_
        refine Sq.nil ?_
        refine Eq.next ?_
        refine Cq.region ?_
        refine Sq.move .plain rfl rfl ?_
        refine Sq.move .plain rfl rfl ?_
        refine Sq.idxInts sl38 one3 (Own.row hnk) .plain rfl rfl rfl .plain rfl rfl (by have := hvt (by omega) (by omega); omega) (by have := hvt (by omega) (by omega); omega) ?_
        refine Sq.move .plain rfl rfl ?_
        refine Sq.add .plain rfl rfl rfl (by omega) ?_
        obtain ⟨p55, hp56o⟩ := Own.at hnk (i := (a.next.getD q.toNat []).getD k.toNat 0) (by have := hvt (by omega) (by omega); omega) (by first | (simp only [List.length_map]; have := hvt (by omega) (by omega); omega) | (simp; have := hvt (by omega) (by omega); omega))
        refine Sq.atO sl38 hp56o .plain rfl rfl rfl ?_
        refine Sq.storeO one3 hnk hp56o .plain rfl rfl rfl (fun w57 g58 ho59 => ?_)
        have hs60 := World.grownBy.size g58
        replace E := E.owned hnk g58 (by omega)
        replace hB4 := hB4.owned hnk g58 (by decide)
        replace hcv := hcv.apart hlow hnk g58 (by omega)
        replace hnk := ho59
        refine Sq.nil ?_
        refine Eq.end ?_
        refine Eq.next ?_
        refine Cq.region ?_
        refine Sq.add .plain rfl rfl rfl (by omega) ?_
        refine Sq.move .plain rfl rfl ?_
        refine Sq.nil ?_
        have e1 := toNat_succ hk.1
        refine Eq.round _ _ ⟨k + 1, rfl, by omega, by omega, by rw [e1, addTo_succ (by omega)]; exact Own.setI hnk, E, hB4, hcv, rfl⟩ (by omega) (.cons rfl (.cons rfl (.cons rfl (.cons rfl (.cons rfl (.cons rfl (.cons rfl (.cons rfl (.cons rfl (.cons rfl (.cons rfl (.cons rfl (.cons rfl (.cons rfl (.cons rfl (.nil))))))))))))))))
      refine Sq.nil ?_
      refine Eq.next ?_
      refine Cq.seq ?_
      refine Cq.els rfl ?_
      refine Cq.exit ?_
      refine Eq.past ?_
      refine Eq.past ?_
      refine Eq.hit ?_
      refine Eq.end ?_
      refine Eq.next ?_
      refine Cq.region ?_
      refine Sq.add .plain rfl rfl rfl (by omega) ?_
      refine Sq.move .plain rfl rfl ?_
      refine Sq.nil ?_
      have e1 := toNat_succ hq.1
      have e2 := sumTo_succ a cs q.toNat
      rw [hac] at e2
      simp only [Bool.false_eq_true, if_false] at e2
      refine Eq.round _ _ ⟨q + 1, _, rfl, by omega, by rw [e1, e2, hS], by omega, by rw [e1, stepTo_succ, ← addTo_done (k := k.toNat) (by omega)]; exact hnk, E, hB4, hcv, rfl⟩ (by omega) (.cons rfl (.cons rfl (.cons rfl (.cons rfl (.cons rfl (.cons rfl (.cons rfl (.cons rfl (.cons rfl (.nil))))))))))
    refine Sq.nil ?_
    refine Eq.next ?_
    refine Cq.seq ?_
    refine Cq.els rfl ?_
    refine Cq.exit ?_
    refine Eq.past ?_
    refine Eq.past ?_
    refine Eq.hit ?_
    refine Eq.next ?_
    refine Cq.seq ?_
    refine Cq.seq ?_
    refine Cq.region ?_
    refine Sq.move .plain rfl rfl ?_
    refine Sq.move .plain rfl rfl ?_
    refine Sq.eql .plain rfl rfl rfl ?_
    refine Sq.part (fun c61 => ?_) (fun c61 => ?_)
    · refine Sq.nil ?_
      refine Eq.next ?_
      refine Cq.thn rfl ?_
      refine Cq.seq ?_
      refine Cq.region ?_
      refine Sq.move .plain rfl rfl ?_
      refine Sq.assign .plain rfl rfl ?_
      refine Sq.nil ?_
      refine Eq.next ?_
      refine Cq.ret ?_
      refine Eq.pastRet ?_
      refine Eq.outRet ?_
      refine Eq.pastRet ?_
      refine Eq.pastRet ?_
      refine Eq.outRet ?_
      refine Eq.ret1 rfl rfl ?_
      obtain rfl : q = a.next.length := by omega
      obtain rfl : i = n := by omega
      rw [Nat.sub_self, cnt] at hT
      exact ⟨by rw [hS, Int.toNat_natCast, hT], E⟩
    refine Sq.nil ?_
    refine Eq.next ?_
    refine Cq.els rfl ?_
    refine Cq.skip ?_
    refine Eq.next ?_
    refine Cq.region ?_
    refine Sq.move .plain rfl rfl ?_
    refine Sq.assign .plain rfl rfl ?_
    refine Sq.nil ?_
    refine Eq.end ?_
    refine Eq.next ?_
    refine Cq.region ?_
    refine Sq.move .plain rfl rfl ?_
    refine Sq.add .plain rfl rfl rfl (by omega) ?_
    refine Sq.assign .plain rfl rfl ?_
    refine Sq.nil ?_
    obtain rfl : q = a.next.length := by omega
    rw [Int.toNat_natCast] at hny hS
    have hnn := cnt_next hv hcl.2.1 (by omega) hcl.2.2
    have e1 := toNat_succ hi.1
    have e2 : n.toNat - i.toNat = (n.toNat - (i + 1).toNat) + 1 := by omega
    rw [e2, cnt] at hT
    refine Eq.round _ _ ⟨i + 1, _, _, stepTo a cs a.next.length, rfl, by omega, Own.mono hny (by omega), ⟨stepTo_length _ _ _, by rw [e1]; exact hnn.1, by rw [hS]; exact hnn.2.1, by rw [hS, e1]; exact hnn.2.2⟩, by rw [hS, ← hT]; omega, E, hB4, rfl⟩ (by omega) (.cons rfl (.cons rfl (.cons rfl (.cons rfl (.cons rfl (.nil))))))
  refine Sq.notF .plain rfl rfl ?_
  refine Sq.move .plain rfl rfl ?_
  refine Sq.off rfl rfl rfl rfl rfl rfl ?_
  refine Sq.off rfl rfl rfl rfl rfl rfl ?_
  refine Sq.pickT .plain rfl rfl rfl ?_
  refine Sq.move .plain rfl rfl ?_
  refine Sq.off rfl rfl rfl rfl rfl rfl ?_
  refine Sq.off rfl rfl rfl rfl rfl rfl ?_
  refine Sq.pickT .plain rfl rfl rfl ?_
  refine Sq.nil ?_
  refine Eq.next ?_
  refine Cq.thn rfl ?_
  refine Cq.seq ?_
  refine Cq.region ?_
  refine Sq.assign .plain rfl rfl ?_
  refine Sq.nil ?_
  refine Eq.next ?_
  refine Cq.ret ?_
  refine Eq.pastRet ?_
  refine Eq.ret1 rfl rfl ?_
  exact ⟨by rw [count_bad (by rw [hv]; simp)], E⟩
end Go.Proofs.Ytpnelflmecchlaa
set_option linter.unusedSimpArgs false
set_option linter.unusedVariables false
namespace Go.Proofs.Ytpnelflmecchlaa
open Go.RowKit
set_option maxRecDepth 100000 in
theorem sCount_c (w0 : World) (a : A) (nx ac : Value) (hnx : Rows w0 38 3 nx a.next) (hac : Bools w0 4 ac a.acc) (n : Int) (hnb : -1000 ≤ n ∧ n ≤ 1000) : Ret Try.prog 6 #[Value.agg #[Value.int .i64 a.al, nx, ac], Value.int .i64 n] w0 (fun v w => v = .int .i64 (count a n) ∧ Ext w0 w) := by
  have E := Ext.refl w0
  refine Ret.of (args := [Value.agg #[Value.int .i64 a.al, nx, ac], Value.int .i64 n]) Try.func6 rfl rfl rfl ?_
  rintro _ rfl
  show Cq _ _ _ _ [(0, Value.agg #[Value.int .i64 a.al, nx, ac]), (1, Value.int .i64 n)] _
  refine Cq.seq ?_
  refine Cq.region ?_
  refine Sq.box .plain rfl rfl (fun b1 w2 e3 hB4 hlo5 => ?_)
  have hd6 := Nat.le_trans (Below.size E) hlo5
  have hs7 := Below.size e3
  replace E := E.trans e3
  refine Sq.assign .plain rfl rfl ?_
  refine Sq.nil ?_
  refine Eq.next ?_
  refine Cq.seq ?_
  refine Cq.seq ?_
  refine Cq.region ?_
  refine Sq.loadAgg agg26 .plain rfl rfl hB4 rfl ?_
  have hd11 := hB4.lt
  refine Sq.call fn13 .plain rfl rfl (sValid_c _ a _ _ (hnx.ext E) (hac.ext E)) ?_
  rintro _ w9 ⟨rfl, e10⟩
  have hs12 := Below.size E
  have hs13 := Below.size e10
  replace E := E.trans e10
  replace hB4 := hB4.ext e10
  refine Sq.partB (fun hv => ?_) (fun hv => ?_)
  · refine Sq.notT .plain rfl rfl ?_
    refine Sq.move .plain rfl rfl ?_
    refine Sq.move (.met rfl rfl rfl) rfl rfl ?_
    refine Sq.lss (.met rfl rfl rfl) rfl rfl rfl ?_
    refine Sq.part (fun c14 => ?_) (fun c14 => ?_)
    · refine Sq.pickF .plain rfl rfl rfl ?_
      refine Sq.move .plain rfl rfl ?_
      refine Sq.off rfl rfl rfl rfl rfl rfl ?_
      refine Sq.off rfl rfl rfl rfl rfl rfl ?_
      refine Sq.pickT .plain rfl rfl rfl ?_
      refine Sq.nil ?_
      refine Eq.next ?_
      refine Cq.thn rfl ?_
      refine Cq.seq ?_
      refine Cq.region ?_
      refine Sq.assign .plain rfl rfl ?_
      refine Sq.nil ?_
      refine Eq.next ?_
      refine Cq.ret ?_
      refine Eq.pastRet ?_
      refine Eq.ret1 rfl rfl ?_
      exact ⟨by rw [count_bad (by omega)], E⟩
    refine Sq.pickF .plain rfl rfl rfl ?_
    refine Sq.move .plain rfl rfl ?_
    refine Sq.move (.met rfl rfl rfl) rfl rfl ?_
    refine Sq.gtr (.met rfl rfl rfl) rfl rfl rfl ?_
    refine Sq.part (fun c15 => ?_) (fun c15 => ?_)
    · refine Sq.pickF .plain rfl rfl rfl ?_
      refine Sq.nil ?_
      refine Eq.next ?_
      refine Cq.thn rfl ?_
      refine Cq.seq ?_
      refine Cq.region ?_
      refine Sq.assign .plain rfl rfl ?_
      refine Sq.nil ?_
      refine Eq.next ?_
      refine Cq.ret ?_
      refine Eq.pastRet ?_
      refine Eq.ret1 rfl rfl ?_
      exact ⟨by rw [count_bad (by omega)], E⟩
    refine Sq.pickF .plain rfl rfl rfl ?_
    refine Sq.nil ?_
    refine Eq.next ?_
    refine Cq.els rfl ?_
    refine Cq.skip ?_
    refine Eq.next ?_
    refine Cq.seq ?_
    refine Cq.region ?_
    have hvs := validA_spec.1 hv
    have hv1 := hvs.2.1
    have hv2 := hvs.2.2.1
    refine Sq.fieldAddr fld26_1 .plain rfl rfl ?_
    refine Sq.loadB one23 .plain rfl rfl hB4 rfl ?_
    refine Sq.lenRows (hnx.ext E) .plain rfl und23 rfl ?_
    refine Sq.make sl38 .plain rfl rfl rfl rfl (by omega) (fun b16 w17 e18 hlo19 hB20 => ?_)
    replace hB20 := hB20 w9.heap.size (Nat.le_refl _)
    have hs21 := Below.size e18
    replace E := E.trans e18
    replace hB4 := hB4.ext e18
    refine Sq.assign .plain rfl rfl ?_
    refine Sq.nil ?_
    refine Eq.next ?_
    refine Cq.seq ?_
    refine Cq.region ?_
    refine Sq.move .plain rfl rfl ?_
    obtain ⟨p22, hp23o⟩ := Own.at hB20 (i := 0) (by omega) (by first | (simp only [List.length_map]; omega) | (simp; omega))
    refine Sq.atO sl38 hp23o .plain rfl rfl rfl ?_
    refine Sq.storeO one3 hB20 hp23o .plain rfl rfl rfl (fun w24 g25 ho26 => ?_)
    have hs27 := World.grownBy.size g25
    replace E := E.owned hB20 g25 (by omega)
    replace hB4 := hB4.owned hB20 g25 (by decide)
    replace hB20 := ho26
    refine Sq.nil ?_
    refine Eq.next ?_
    refine Cq.seq ?_
    refine Cq.region ?_
    refine Sq.assign .plain rfl rfl ?_
    refine Sq.nil ?_
    refine Eq.next ?_
    refine Cq.seq ?_
    refine Cq.block ?_
    refine Cq.loop (fun nn w ls => ∃ (m : Int), ∃ (T : Int), ∃ (cv : Value), ∃ (cs : List Int), ls = [(2, Value.pointer (some ⟨b1, 0, none⟩)), (5, cv), (6, Value.int .i64 T), (1, Value.int .i64 m)] ∧ (-1 ≤ m ∧ m ≤ n) ∧ Own w w0.heap.size 3 cv (cs.map (Value.int .i64)) ∧ (cs.length = a.next.length ∧ (0 ≤ m → InB cs (72 ^ (n - m).toNat)) ∧ 0 ≤ T ∧ T ≤ 72 ^ (n - m).toNat) ∧ (if m < 0 then T else T + cnt a m.toNat cs) = count a n ∧ Ext w0 w ∧ Blk w b1 26 [Value.int .i64 a.al, nx, ac] ∧ nn = (m + 1).toNat) _ _ ⟨n, 0, _, start a, rfl, by omega, Own.startI hB20 (by omega), ⟨start_length a, fun _ => by rw [Int.sub_self]; exact start_in, by omega, by rw [Int.sub_self]; decide⟩, by rw [if_neg (by omega), count_good hv (by omega)]; omega, E, hB4, rfl⟩ (.cons rfl (.cons rfl (.cons rfl (.cons rfl (.nil))))) ?_
    rintro nn wl1 ls ⟨m, T, cv, cs, rfl, hi, hcv, hcl, hT, E, hB4, rfl⟩
    have hs28 := Below.size E
    have hlow := Own.low hcv
    refine Cq.seq ?_
    refine Cq.seq ?_
    refine Cq.region ?_
    refine Sq.move .plain rfl rfl ?_
    refine Sq.geq .plain rfl rfl rfl ?_
    refine Sq.part (fun c29 => ?_) (fun c29 => ?_)
    · refine Sq.nil ?_
      refine Eq.next ?_
      refine Cq.thn rfl ?_
      refine Cq.skip ?_
      refine Eq.next ?_
      refine Cq.seq ?_
      refine Cq.block ?_
      refine Cq.seq ?_
      refine Cq.region ?_
      refine Sq.fieldAddr fld26_1 .plain rfl rfl ?_
      refine Sq.loadB one23 .plain rfl rfl hB4 rfl ?_
      refine Sq.lenRows (hnx.ext E) .plain rfl und23 rfl ?_
      refine Sq.make sl38 .plain rfl rfl rfl rfl (by omega) (fun b30 w31 e32 hlo33 hB34 => ?_)
      replace hB34 := hB34 wl1.heap.size (Nat.le_refl _)
      have hs35 := Below.size e32
      replace E := E.trans e32
      replace hB4 := hB4.ext e32
      replace hcv := hcv.ext e32
      refine Sq.assign .plain rfl rfl ?_
      refine Sq.nil ?_
      refine Eq.next ?_
      refine Cq.seq ?_
      refine Cq.seq ?_
      refine Cq.region ?_
      refine Sq.assign .plain rfl rfl ?_
      refine Sq.nil ?_
      refine Eq.next ?_
      refine Cq.block ?_
      refine Cq.loop (fun nn w ls => ∃ (q : Int), ∃ (S : Int), ls = [(2, Value.pointer (some ⟨b1, 0, none⟩)), (1, Value.int .i64 m), (5, cv), (6, Value.int .i64 S), (7, Value.slice (some ⟨b30, 0, none⟩) (List.length a.next : Int).toNat (List.length a.next : Int).toNat), (8, Value.int .i64 q)] ∧ (0 ≤ q ∧ q ≤ a.next.length) ∧ S = T + sumTo a cs q.toNat ∧ wl1.heap.size ≤ w.heap.size ∧ Own w wl1.heap.size 3 (Value.slice (some ⟨b30, 0, none⟩) (List.length a.next : Int).toNat (List.length a.next : Int).toNat) ((stepTo a cs q.toNat).map (Value.int .i64)) ∧ Ext w0 w ∧ Blk w b1 26 [Value.int .i64 a.al, nx, ac] ∧ Own w w0.heap.size 3 cv (cs.map (Value.int .i64)) ∧ nn = ((a.next.length : Int) - q).toNat) _ _ ⟨0, _, rfl, by omega, by simp [sumTo], by omega, Own.rep hB34, E, hB4, hcv, rfl⟩ (.cons rfl (.cons rfl (.cons rfl (.cons rfl (.cons rfl (.cons rfl (.nil))))))) ?_
      rintro nn wl2 ls ⟨q, S, rfl, hq, hS, hsz, hny, E, hB4, hcv, rfl⟩
      have hs36 := Below.size E
      have hroom0 := cnt_room hv (hcl.2.1 (by omega)) (by omega) (q := q.toNat) (by omega) (Nat.zero_le _) 0
      have hsr := sum_room (a := a) (hcl.2.1 (by omega)) (by omega) hcl.2.2 (q := q.toNat) (by omega)
      have hr6 := valid_row6 hv (k := q.toNat)
      refine Cq.seq ?_
      refine Cq.seq ?_
      refine Cq.region ?_
      refine Sq.move .plain rfl rfl ?_
      refine Sq.move .plain rfl rfl ?_
      refine Sq.lenInts (Own.row hcv) .plain rfl und38 rfl ?_
      refine Sq.lss .plain rfl rfl rfl ?_
      refine Sq.part (fun c37 => ?_) (fun c37 => ?_)
      · refine Sq.nil ?_
        refine Eq.next ?_
        refine Cq.thn rfl ?_
        refine Cq.skip ?_
        refine Eq.next ?_
        refine Cq.seq ?_
        refine Cq.block ?_
        refine Cq.seq ?_
        refine Cq.seq ?_
        refine Cq.region ?_
        refine Sq.fieldAddr fld26_2 .plain rfl rfl ?_
        refine Sq.loadB one24 .plain rfl rfl hB4 rfl ?_
        refine Sq.move .plain rfl rfl ?_
        refine Sq.idxBools sl24 one4 (hac.ext E) .plain rfl rfl rfl .plain rfl rfl (by omega) (by omega) ?_
        refine Sq.partB (fun hac => ?_) (fun hac => ?_)
        · refine Sq.nil ?_
          refine Eq.next ?_
          refine Cq.thn rfl ?_
          refine Cq.region ?_
          refine Sq.move .plain rfl rfl ?_
          refine Sq.move .plain rfl rfl ?_
          refine Sq.move .plain rfl rfl ?_
          refine Sq.idxInts sl38 one3 (Own.row hcv) .plain rfl rfl rfl .plain rfl rfl (by omega) (by omega) ?_
          refine Sq.add .plain rfl rfl rfl (by omega) ?_
          refine Sq.assign .plain rfl rfl ?_
          refine Sq.nil ?_
          refine Eq.next ?_
          refine Cq.seq ?_
          refine Cq.region ?_
          refine Sq.assign .plain rfl rfl ?_
          refine Sq.nil ?_
          refine Eq.next ?_
          refine Cq.block ?_
          refine Cq.loop (fun nn w ls => ∃ (k : Int), ls = [(2, Value.pointer (some ⟨b1, 0, none⟩)), (1, Value.int .i64 m), (5, cv), (6, Value.int .i64 (S + (cs.getD q.toNat 0))), (7, Value.slice (some ⟨b30, 0, none⟩) (List.length a.next : Int).toNat (List.length a.next : Int).toNat), (8, Value.int .i64 q), (45, Value.bool true), (9, Value.int .i64 k)] ∧ (0 ≤ k ∧ k ≤ (a.next.getD q.toNat []).length) ∧ wl1.heap.size ≤ w.heap.size ∧ Own w wl1.heap.size 3 (Value.slice (some ⟨b30, 0, none⟩) (List.length a.next : Int).toNat (List.length a.next : Int).toNat) ((addTo (a.next.getD q.toNat []) (cs.getD q.toNat 0) k.toNat (stepTo a cs q.toNat)).map (Value.int .i64)) ∧ Ext w0 w ∧ Blk w b1 26 [Value.int .i64 a.al, nx, ac] ∧ Own w w0.heap.size 3 cv (cs.map (Value.int .i64)) ∧ nn = (((a.next.getD q.toNat []).length : Int) - k).toNat) _ _ ⟨0, rfl, by omega, by omega, by exact hny, E, hB4, hcv, rfl⟩ (.cons rfl (.cons rfl (.cons rfl (.cons rfl (.cons rfl (.cons rfl (.cons rfl (.cons rfl (.nil))))))))) ?_
          rintro nn wl3 ls ⟨k, rfl, hk, hsz2, hnk, E, hB4, hcv, rfl⟩
          have hs38 := Below.size E
          have hroom := cnt_room hv (hcl.2.1 (by omega)) (by omega) (q := q.toNat) (by omega) (k := k.toNat) (by omega) ((a.next.getD q.toNat []).getD k.toNat 0).toNat
          have hvt := valid_at hv (k := q.toNat) (j := k.toNat)
          have hal : (addTo (a.next.getD q.toNat []) (cs.getD q.toNat 0) k.toNat (stepTo a cs q.toNat)).length = a.next.length := by rw [addTo_length, stepTo_length]
          refine Cq.seq ?_
          refine Cq.seq ?_
          refine Cq.region ?_
          refine Sq.move .plain rfl rfl ?_
          refine Sq.fieldAddr fld26_1 .plain rfl rfl ?_
          refine Sq.loadB one23 .plain rfl rfl hB4 rfl ?_
          refine Sq.move .plain rfl rfl ?_
          obtain ⟨p39, r41, hp40, hr42⟩ := Rows.at hnx (i := q) (by omega) (by omega)
          replace hp40 := hp40.ext E
          refine Sq.val .plain rfl rfl (Still.at' sl23 hp40 rfl rfl) ?_
          refine Sq.val .plain rfl rfl (Still.loadA one38 rfl hp40.1) ?_
          refine Sq.lenInts (hr42.ext E) .plain rfl und38 rfl ?_
          refine Sq.lss .plain rfl rfl rfl ?_
          refine Sq.part (fun c43 => ?_) (fun c43 => ?_)
          · refine Sq.nil ?_
            refine Eq.next ?_
            refine Cq.thn rfl ?_
            refine Cq.skip ?_
            refine Eq.next ?_
            refine Cq.seq ?_
            refine Cq.block ?_
            have ht := hvt (by omega) (by omega)
            obtain ⟨pR, rR, hpR, hrR⟩ := Rows.at hnx (i := q) (by omega) (by omega)
            obtain ⟨pT, hpT⟩ := Ints.at hrR (i := k) (by omega) (by omega)
            replace hpR := hpR.ext E
            replace hpT := hpT.ext E
            obtain ⟨pN, hpN⟩ := Ints.at (Own.row hnk) (i := ((a.next.getD q.toNat []).getD k.toNat 0)) (by omega) (by omega)
            obtain ⟨pC, hpC⟩ := Ints.at (Own.row hcv) (i := q) (by omega) (by omega)
            have hpNo := AtO.of hnk hpN
            refine Cq.drawS 25 (fun w' => Blk w' b1 26 [Value.int .i64 a.al, nx, ac] ∧ At w' 38 nx q pR rR ∧ At w' 3 rR k pT (.int .i64 ((a.next.getD q.toNat []).getD k.toNat 0)) ∧ At w' 3 (Value.slice (some ⟨b30, 0, none⟩) (List.length a.next : Int).toNat (List.length a.next : Int).toNat) ((a.next.getD q.toNat []).getD k.toNat 0) pN (.int .i64 ((addTo (a.next.getD q.toNat []) (cs.getD q.toNat 0) k.toNat (stepTo a cs q.toNat)).getD ((a.next.getD q.toNat []).getD k.toNat 0).toNat 0)) ∧ At w' 3 cv q pC (.int .i64 (cs.getD q.toNat 0))) mixed (⟨hB4, hpR, hpT, hpN, hpC⟩) (fun w44 e45 hS => ?_)
            clear hS
            have hs46 := Below.size e45
            replace E := E.trans e45
            replace hB4 := hB4.ext e45
            replace hcv := hcv.ext e45
            replace hnk := hnk.ext e45
            replace hpR := hpR.ext e45
            replace hpT := hpT.ext e45
            replace hpN := hpN.ext e45
            replace hpC := hpC.ext e45
            refine Gq.st 0 rfl (by kernel_rfl) rfl .plain rfl (fun _ _ _ h => h) ⟨hB4, hpR, hpT, hpN, hpC⟩ (fun w' x => Still.move rfl) ?_
            refine Gq.st 1 rfl (by kernel_rfl) rfl .plain rfl (fun _ _ _ h => h) ⟨hB4, hpR, hpT, hpN, hpC⟩ (fun w' x => Still.fieldAddr fld26_1 rfl) ?_
            refine Gq.st 2 rfl (by kernel_rfl) rfl .plain rfl (fun _ _ _ h => h) ⟨hB4, hpR, hpT, hpN, hpC⟩ (fun w' x => Still.loadB one23 rfl x.1 rfl) ?_
            refine Gq.st 3 rfl (by kernel_rfl) rfl .plain rfl (fun _ _ _ h => h) ⟨hB4, hpR, hpT, hpN, hpC⟩ (fun w' x => Still.move rfl) ?_
            refine Gq.st 4 rfl (by kernel_rfl) rfl .plain rfl (fun _ _ _ h => h) ⟨hB4, hpR, hpT, hpN, hpC⟩ (fun w' x => Still.at' sl23 hpR rfl rfl) ?_
            refine Gq.st 5 rfl (by kernel_rfl) rfl .plain rfl (fun _ _ _ h => h) ⟨hB4, hpR, hpT, hpN, hpC⟩ (fun w' x => Still.loadA one38 rfl (x.2.1).1) ?_
            refine Gq.st 6 rfl (by kernel_rfl) rfl .plain rfl (fun _ _ _ h => h) ⟨hB4, hpR, hpT, hpN, hpC⟩ (fun w' x => Still.move rfl) ?_
            refine Gq.st 7 rfl (by kernel_rfl) rfl .plain rfl (fun _ _ _ h => h) ⟨hB4, hpR, hpT, hpN, hpC⟩ (fun w' x => Still.at' sl38 hpT rfl rfl) ?_
            refine Gq.st 8 rfl (by kernel_rfl) rfl .plain rfl (fun _ _ _ h => h) ⟨hB4, hpR, hpT, hpN, hpC⟩ (fun w' x => Still.loadA one3 rfl (x.2.2.1).1) ?_
            refine Gq.st 9 rfl (by kernel_rfl) rfl .plain rfl (fun _ _ _ h => h) ⟨hB4, hpR, hpT, hpN, hpC⟩ (fun w' x => Still.move rfl) ?_
            refine Gq.st 10 rfl (by kernel_rfl) rfl .plain rfl (fun _ _ _ h => h) ⟨hB4, hpR, hpT, hpN, hpC⟩ (fun w' x => Still.fieldAddr fld26_1 rfl) ?_
            refine Gq.st 11 rfl (by kernel_rfl) rfl .plain rfl (fun _ _ _ h => h) ⟨hB4, hpR, hpT, hpN, hpC⟩ (fun w' x => Still.loadB one23 rfl x.1 rfl) ?_
            refine Gq.st 12 rfl (by kernel_rfl) rfl .plain rfl (fun _ _ _ h => h) ⟨hB4, hpR, hpT, hpN, hpC⟩ (fun w' x => Still.move rfl) ?_
            refine Gq.st 13 rfl (by kernel_rfl) rfl .plain rfl (fun _ _ _ h => h) ⟨hB4, hpR, hpT, hpN, hpC⟩ (fun w' x => Still.at' sl23 hpR rfl rfl) ?_
            refine Gq.st 14 rfl (by kernel_rfl) rfl .plain rfl (fun _ _ _ h => h) ⟨hB4, hpR, hpT, hpN, hpC⟩ (fun w' x => Still.loadA one38 rfl (x.2.1).1) ?_
            refine Gq.st 15 rfl (by kernel_rfl) rfl .plain rfl (fun _ _ _ h => h) ⟨hB4, hpR, hpT, hpN, hpC⟩ (fun w' x => Still.move rfl) ?_
            refine Gq.st 16 rfl (by kernel_rfl) rfl .plain rfl (fun _ _ _ h => h) ⟨hB4, hpR, hpT, hpN, hpC⟩ (fun w' x => Still.at' sl38 hpT rfl rfl) ?_
            refine Gq.st 17 rfl (by kernel_rfl) rfl .plain rfl (fun _ _ _ h => h) ⟨hB4, hpR, hpT, hpN, hpC⟩ (fun w' x => Still.loadA one3 rfl (x.2.2.1).1) ?_
            refine Gq.st 18 rfl (by kernel_rfl) rfl .plain rfl (fun _ _ _ h => h) ⟨hB4, hpR, hpT, hpN, hpC⟩ (fun w' x => Still.at' sl38 hpN rfl rfl) ?_
            refine Gq.st 19 rfl (by kernel_rfl) rfl .plain rfl (fun _ _ _ h => h) ⟨hB4, hpR, hpT, hpN, hpC⟩ (fun w' x => Still.loadA one3 rfl (x.2.2.2.1).1) ?_
            refine Gq.st 20 rfl (by kernel_rfl) rfl .plain rfl (fun _ _ _ h => h) ⟨hB4, hpR, hpT, hpN, hpC⟩ (fun w' x => Still.move rfl) ?_
            refine Gq.st 21 rfl (by kernel_rfl) rfl .plain rfl (fun _ _ _ h => h) ⟨hB4, hpR, hpT, hpN, hpC⟩ (fun w' x => Still.move rfl) ?_
            refine Gq.st 22 rfl (by kernel_rfl) rfl .plain rfl (fun _ _ _ h => h) ⟨hB4, hpR, hpT, hpN, hpC⟩ (fun w' x => Still.at' sl38 hpC rfl rfl) ?_
            refine Gq.st 23 rfl (by kernel_rfl) rfl .plain rfl (fun _ _ _ h => h) ⟨hB4, hpR, hpT, hpN, hpC⟩ (fun w' x => Still.loadA one3 rfl (x.2.2.2.2).1) ?_
            refine Gq.st 24 rfl (by kernel_rfl) rfl .plain rfl (fun _ _ _ h => h) ⟨hB4, hpR, hpT, hpN, hpC⟩ (fun w' x => Still.add rfl rfl (by omega)) ?_
            refine Gq.one 25 rfl (by kernel_rfl) ?_
            refine Sq.atO sl38 hpNo .plain rfl rfl rfl ?_
            refine Sq.nil ?_
            refine Eq.goes (fun h => absurd h (by decide)) ?_
            refine Gq.one 26 rfl (by kernel_rfl) ?_
            refine Sq.storeO one3 hnk hpNo .plain rfl rfl rfl (fun w47 g48 ho49 => ?_)
            have hs50 := World.grownBy.size g48
            replace E := E.owned hnk g48 (by omega)
            replace hB4 := hB4.owned hnk g48 (by decide)
            replace hcv := hcv.apart hlow hnk g48 (by omega)
            replace hnk := ho49
            refine Sq.nil ?_
            refine Eq.goes (fun h => absurd h (by decide)) ?_
            refine Gq.done (by kernel_rfl) ?_
            refine Eq.end ?_
            refine Eq.next ?_
            refine Cq.region ?_
            refine Sq.move .plain rfl rfl ?_
            refine Sq.add .plain rfl rfl rfl (by omega) ?_
            refine Sq.assign .plain rfl rfl ?_
            refine Sq.nil ?_
            have e1 := toNat_succ hk.1
            refine Eq.round _ _ ⟨k + 1, rfl, by omega, by omega, by rw [e1, addTo_succ (by omega)]; exact Own.setI hnk, E, hB4, hcv, rfl⟩ (by omega) (.cons rfl (.cons rfl (.cons rfl (.cons rfl (.cons rfl (.cons rfl (.cons rfl (.cons rfl (.nil)))))))))
          refine Sq.nil ?_
          refine Eq.next ?_
          refine Cq.els rfl ?_
          refine Cq.exit ?_
          refine Eq.past ?_
          refine Eq.past ?_
          refine Eq.hit ?_
          refine Eq.end ?_
          refine Eq.next ?_
          refine Cq.region ?_
          refine Sq.move .plain rfl rfl ?_
          refine Sq.add .plain rfl rfl rfl (by omega) ?_
          refine Sq.assign .plain rfl rfl ?_
          refine Sq.nil ?_
          have e1 := toNat_succ hq.1
          have e2 := sumTo_succ a cs q.toNat
          rw [hac] at e2
          simp only [if_true] at e2
          refine Eq.round _ _ ⟨q + 1, _, rfl, by omega, by rw [e1, e2, hS]; omega, by omega, by rw [e1, stepTo_succ, ← addTo_done (k := k.toNat) (by omega)]; exact hnk, E, hB4, hcv, rfl⟩ (by omega) (.cons rfl (.cons rfl (.cons rfl (.cons rfl (.cons rfl (.cons rfl (.nil)))))))
        refine Sq.nil ?_
        refine Eq.next ?_
        refine Cq.els rfl ?_
        refine Cq.skip ?_
        refine Eq.next ?_
        refine Cq.seq ?_
        refine Cq.region ?_
        refine Sq.assign .plain rfl rfl ?_
        refine Sq.nil ?_
        refine Eq.next ?_
        refine Cq.block ?_
        refine Cq.loop (fun nn w ls => ∃ (k : Int), ls = [(2, Value.pointer (some ⟨b1, 0, none⟩)), (1, Value.int .i64 m), (5, cv), (6, Value.int .i64 S), (7, Value.slice (some ⟨b30, 0, none⟩) (List.length a.next : Int).toNat (List.length a.next : Int).toNat), (8, Value.int .i64 q), (45, Value.bool false), (9, Value.int .i64 k)] ∧ (0 ≤ k ∧ k ≤ (a.next.getD q.toNat []).length) ∧ wl1.heap.size ≤ w.heap.size ∧ Own w wl1.heap.size 3 (Value.slice (some ⟨b30, 0, none⟩) (List.length a.next : Int).toNat (List.length a.next : Int).toNat) ((addTo (a.next.getD q.toNat []) (cs.getD q.toNat 0) k.toNat (stepTo a cs q.toNat)).map (Value.int .i64)) ∧ Ext w0 w ∧ Blk w b1 26 [Value.int .i64 a.al, nx, ac] ∧ Own w w0.heap.size 3 cv (cs.map (Value.int .i64)) ∧ nn = (((a.next.getD q.toNat []).length : Int) - k).toNat) _ _ ⟨0, rfl, by omega, by omega, by exact hny, E, hB4, hcv, rfl⟩ (.cons rfl (.cons rfl (.cons rfl (.cons rfl (.cons rfl (.cons rfl (.cons rfl (.cons rfl (.nil))))))))) ?_
        rintro nn wl3 ls ⟨k, rfl, hk, hsz2, hnk, E, hB4, hcv, rfl⟩
        have hs51 := Below.size E
        have hroom := cnt_room hv (hcl.2.1 (by omega)) (by omega) (q := q.toNat) (by omega) (k := k.toNat) (by omega) ((a.next.getD q.toNat []).getD k.toNat 0).toNat
        have hvt := valid_at hv (k := q.toNat) (j := k.toNat)
        have hal : (addTo (a.next.getD q.toNat []) (cs.getD q.toNat 0) k.toNat (stepTo a cs q.toNat)).length = a.next.length := by rw [addTo_length, stepTo_length]
        refine Cq.seq ?_
        refine Cq.seq ?_
        refine Cq.region ?_
        refine Sq.move .plain rfl rfl ?_
        refine Sq.fieldAddr fld26_1 .plain rfl rfl ?_
        refine Sq.loadB one23 .plain rfl rfl hB4 rfl ?_
        refine Sq.move .plain rfl rfl ?_
        obtain ⟨p52, r54, hp53, hr55⟩ := Rows.at hnx (i := q) (by omega) (by omega)
        replace hp53 := hp53.ext E
        refine Sq.val .plain rfl rfl (Still.at' sl23 hp53 rfl rfl) ?_
        refine Sq.val .plain rfl rfl (Still.loadA one38 rfl hp53.1) ?_
        refine Sq.lenInts (hr55.ext E) .plain rfl und38 rfl ?_
        refine Sq.lss .plain rfl rfl rfl ?_
        refine Sq.part (fun c56 => ?_) (fun c56 => ?_)
        · refine Sq.nil ?_
          refine Eq.next ?_
          refine Cq.thn rfl ?_
          refine Cq.skip ?_
          refine Eq.next ?_
          refine Cq.seq ?_
          refine Cq.block ?_
          have ht := hvt (by omega) (by omega)
          obtain ⟨pR, rR, hpR, hrR⟩ := Rows.at hnx (i := q) (by omega) (by omega)
          obtain ⟨pT, hpT⟩ := Ints.at hrR (i := k) (by omega) (by omega)
          replace hpR := hpR.ext E
          replace hpT := hpT.ext E
          obtain ⟨pN, hpN⟩ := Ints.at (Own.row hnk) (i := ((a.next.getD q.toNat []).getD k.toNat 0)) (by omega) (by omega)
          obtain ⟨pC, hpC⟩ := Ints.at (Own.row hcv) (i := q) (by omega) (by omega)
          have hpNo := AtO.of hnk hpN
          refine Cq.drawS 25 (fun w' => Blk w' b1 26 [Value.int .i64 a.al, nx, ac] ∧ At w' 38 nx q pR rR ∧ At w' 3 rR k pT (.int .i64 ((a.next.getD q.toNat []).getD k.toNat 0)) ∧ At w' 3 (Value.slice (some ⟨b30, 0, none⟩) (List.length a.next : Int).toNat (List.length a.next : Int).toNat) ((a.next.getD q.toNat []).getD k.toNat 0) pN (.int .i64 ((addTo (a.next.getD q.toNat []) (cs.getD q.toNat 0) k.toNat (stepTo a cs q.toNat)).getD ((a.next.getD q.toNat []).getD k.toNat 0).toNat 0)) ∧ At w' 3 cv q pC (.int .i64 (cs.getD q.toNat 0))) mixed (⟨hB4, hpR, hpT, hpN, hpC⟩) (fun w57 e58 hS => ?_)
          clear hS
          have hs59 := Below.size e58
          replace E := E.trans e58
          replace hB4 := hB4.ext e58
          replace hcv := hcv.ext e58
          replace hnk := hnk.ext e58
          replace hpR := hpR.ext e58
          replace hpT := hpT.ext e58
          replace hpN := hpN.ext e58
          replace hpC := hpC.ext e58
          refine Gq.st 0 rfl (by kernel_rfl) rfl .plain rfl (fun _ _ _ h => h) ⟨hB4, hpR, hpT, hpN, hpC⟩ (fun w' x => Still.move rfl) ?_
          refine Gq.st 1 rfl (by kernel_rfl) rfl .plain rfl (fun _ _ _ h => h) ⟨hB4, hpR, hpT, hpN, hpC⟩ (fun w' x => Still.fieldAddr fld26_1 rfl) ?_
          refine Gq.st 2 rfl (by kernel_rfl) rfl .plain rfl (fun _ _ _ h => h) ⟨hB4, hpR, hpT, hpN, hpC⟩ (fun w' x => Still.loadB one23 rfl x.1 rfl) ?_
          refine Gq.st 3 rfl (by kernel_rfl) rfl .plain rfl (fun _ _ _ h => h) ⟨hB4, hpR, hpT, hpN, hpC⟩ (fun w' x => Still.move rfl) ?_
          refine Gq.st 4 rfl (by kernel_rfl) rfl .plain rfl (fun _ _ _ h => h) ⟨hB4, hpR, hpT, hpN, hpC⟩ (fun w' x => Still.at' sl23 hpR rfl rfl) ?_
          refine Gq.st 5 rfl (by kernel_rfl) rfl .plain rfl (fun _ _ _ h => h) ⟨hB4, hpR, hpT, hpN, hpC⟩ (fun w' x => Still.loadA one38 rfl (x.2.1).1) ?_
          refine Gq.st 6 rfl (by kernel_rfl) rfl .plain rfl (fun _ _ _ h => h) ⟨hB4, hpR, hpT, hpN, hpC⟩ (fun w' x => Still.move rfl) ?_
          refine Gq.st 7 rfl (by kernel_rfl) rfl .plain rfl (fun _ _ _ h => h) ⟨hB4, hpR, hpT, hpN, hpC⟩ (fun w' x => Still.at' sl38 hpT rfl rfl) ?_
          refine Gq.st 8 rfl (by kernel_rfl) rfl .plain rfl (fun _ _ _ h => h) ⟨hB4, hpR, hpT, hpN, hpC⟩ (fun w' x => Still.loadA one3 rfl (x.2.2.1).1) ?_
          refine Gq.st 9 rfl (by kernel_rfl) rfl .plain rfl (fun _ _ _ h => h) ⟨hB4, hpR, hpT, hpN, hpC⟩ (fun w' x => Still.move rfl) ?_
          refine Gq.st 10 rfl (by kernel_rfl) rfl .plain rfl (fun _ _ _ h => h) ⟨hB4, hpR, hpT, hpN, hpC⟩ (fun w' x => Still.fieldAddr fld26_1 rfl) ?_
          refine Gq.st 11 rfl (by kernel_rfl) rfl .plain rfl (fun _ _ _ h => h) ⟨hB4, hpR, hpT, hpN, hpC⟩ (fun w' x => Still.loadB one23 rfl x.1 rfl) ?_
          refine Gq.st 12 rfl (by kernel_rfl) rfl .plain rfl (fun _ _ _ h => h) ⟨hB4, hpR, hpT, hpN, hpC⟩ (fun w' x => Still.move rfl) ?_
          refine Gq.st 13 rfl (by kernel_rfl) rfl .plain rfl (fun _ _ _ h => h) ⟨hB4, hpR, hpT, hpN, hpC⟩ (fun w' x => Still.at' sl23 hpR rfl rfl) ?_
          refine Gq.st 14 rfl (by kernel_rfl) rfl .plain rfl (fun _ _ _ h => h) ⟨hB4, hpR, hpT, hpN, hpC⟩ (fun w' x => Still.loadA one38 rfl (x.2.1).1) ?_
          refine Gq.st 15 rfl (by kernel_rfl) rfl .plain rfl (fun _ _ _ h => h) ⟨hB4, hpR, hpT, hpN, hpC⟩ (fun w' x => Still.move rfl) ?_
          refine Gq.st 16 rfl (by kernel_rfl) rfl .plain rfl (fun _ _ _ h => h) ⟨hB4, hpR, hpT, hpN, hpC⟩ (fun w' x => Still.at' sl38 hpT rfl rfl) ?_
          refine Gq.st 17 rfl (by kernel_rfl) rfl .plain rfl (fun _ _ _ h => h) ⟨hB4, hpR, hpT, hpN, hpC⟩ (fun w' x => Still.loadA one3 rfl (x.2.2.1).1) ?_
          refine Gq.st 18 rfl (by kernel_rfl) rfl .plain rfl (fun _ _ _ h => h) ⟨hB4, hpR, hpT, hpN, hpC⟩ (fun w' x => Still.at' sl38 hpN rfl rfl) ?_
          refine Gq.st 19 rfl (by kernel_rfl) rfl .plain rfl (fun _ _ _ h => h) ⟨hB4, hpR, hpT, hpN, hpC⟩ (fun w' x => Still.loadA one3 rfl (x.2.2.2.1).1) ?_
          refine Gq.st 20 rfl (by kernel_rfl) rfl .plain rfl (fun _ _ _ h => h) ⟨hB4, hpR, hpT, hpN, hpC⟩ (fun w' x => Still.move rfl) ?_
          refine Gq.st 21 rfl (by kernel_rfl) rfl .plain rfl (fun _ _ _ h => h) ⟨hB4, hpR, hpT, hpN, hpC⟩ (fun w' x => Still.move rfl) ?_
          refine Gq.st 22 rfl (by kernel_rfl) rfl .plain rfl (fun _ _ _ h => h) ⟨hB4, hpR, hpT, hpN, hpC⟩ (fun w' x => Still.at' sl38 hpC rfl rfl) ?_
          refine Gq.st 23 rfl (by kernel_rfl) rfl .plain rfl (fun _ _ _ h => h) ⟨hB4, hpR, hpT, hpN, hpC⟩ (fun w' x => Still.loadA one3 rfl (x.2.2.2.2).1) ?_
          refine Gq.st 24 rfl (by kernel_rfl) rfl .plain rfl (fun _ _ _ h => h) ⟨hB4, hpR, hpT, hpN, hpC⟩ (fun w' x => Still.add rfl rfl (by omega)) ?_
          refine Gq.one 25 rfl (by kernel_rfl) ?_
          refine Sq.atO sl38 hpNo .plain rfl rfl rfl ?_
          refine Sq.nil ?_
          refine Eq.goes (fun h => absurd h (by decide)) ?_
          refine Gq.one 26 rfl (by kernel_rfl) ?_
          refine Sq.storeO one3 hnk hpNo .plain rfl rfl rfl (fun w60 g61 ho62 => ?_)
          have hs63 := World.grownBy.size g61
          replace E := E.owned hnk g61 (by omega)
          replace hB4 := hB4.owned hnk g61 (by decide)
          replace hcv := hcv.apart hlow hnk g61 (by omega)
          replace hnk := ho62
          refine Sq.nil ?_
          refine Eq.goes (fun h => absurd h (by decide)) ?_
          refine Gq.done (by kernel_rfl) ?_
          refine Eq.end ?_
          refine Eq.next ?_
          refine Cq.region ?_
          refine Sq.move .plain rfl rfl ?_
          refine Sq.add .plain rfl rfl rfl (by omega) ?_
          refine Sq.assign .plain rfl rfl ?_
          refine Sq.nil ?_
          have e1 := toNat_succ hk.1
          refine Eq.round _ _ ⟨k + 1, rfl, by omega, by omega, by rw [e1, addTo_succ (by omega)]; exact Own.setI hnk, E, hB4, hcv, rfl⟩ (by omega) (.cons rfl (.cons rfl (.cons rfl (.cons rfl (.cons rfl (.cons rfl (.cons rfl (.cons rfl (.nil)))))))))
        refine Sq.nil ?_
        refine Eq.next ?_
        refine Cq.els rfl ?_
        refine Cq.exit ?_
        refine Eq.past ?_
        refine Eq.past ?_
        refine Eq.hit ?_
        refine Eq.end ?_
        refine Eq.next ?_
        refine Cq.region ?_
        refine Sq.move .plain rfl rfl ?_
        refine Sq.add .plain rfl rfl rfl (by omega) ?_
        refine Sq.assign .plain rfl rfl ?_
        refine Sq.nil ?_
        have e1 := toNat_succ hq.1
        have e2 := sumTo_succ a cs q.toNat
        rw [hac] at e2
        simp only [Bool.false_eq_true, if_false] at e2
        refine Eq.round _ _ ⟨q + 1, _, rfl, by omega, by rw [e1, e2, hS], by omega, by rw [e1, stepTo_succ, ← addTo_done (k := k.toNat) (by omega)]; exact hnk, E, hB4, hcv, rfl⟩ (by omega) (.cons rfl (.cons rfl (.cons rfl (.cons rfl (.cons rfl (.cons rfl (.nil)))))))
      refine Sq.nil ?_
      refine Eq.next ?_
      refine Cq.els rfl ?_
      refine Cq.exit ?_
      refine Eq.past ?_
      refine Eq.past ?_
      refine Eq.hit ?_
      refine Eq.next ?_
      refine Cq.region ?_
      refine Sq.move .plain rfl rfl ?_
      refine Sq.assign .plain rfl rfl ?_
      refine Sq.nil ?_
      refine Eq.end ?_
      refine Eq.next ?_
      refine Cq.region ?_
      refine Sq.move .plain rfl rfl ?_
      refine Sq.sub .plain rfl rfl rfl (by omega) ?_
      refine Sq.assign .plain rfl rfl ?_
      refine Sq.nil ?_
      obtain rfl : q = a.next.length := by omega
      rw [Int.toNat_natCast] at hny hS
      have hnn := cnt_next hv (hcl.2.1 (by omega)) (by omega) hcl.2.2
      have e1 : (n - (m - 1)).toNat = (n - m).toNat + 1 := by omega
      refine Eq.round _ _ ⟨m - 1, _, _, stepTo a cs a.next.length, rfl, by omega, Own.mono hny (by omega), ⟨stepTo_length _ _ _, fun _ => by rw [e1]; exact hnn.1, by rw [hS]; exact hnn.2.1, by rw [hS, e1]; exact hnn.2.2⟩, by rw [if_neg (by omega)] at hT; rw [← hT, hS]; exact cnt_down (by omega), E, hB4, rfl⟩ (by omega) (.cons rfl (.cons rfl (.cons rfl (.cons rfl (.nil)))))
    refine Sq.nil ?_
    refine Eq.next ?_
    refine Cq.els rfl ?_
    refine Cq.exit ?_
    refine Eq.past ?_
    refine Eq.past ?_
    refine Eq.hit ?_
    refine Eq.next ?_
    refine Cq.seq ?_
    refine Cq.region ?_
    refine Sq.move .plain rfl rfl ?_
    refine Sq.assign .plain rfl rfl ?_
    refine Sq.nil ?_
    refine Eq.next ?_
    refine Cq.ret ?_
    refine Eq.ret1 rfl rfl ?_
    rw [if_pos (by omega)] at hT
    exact ⟨by rw [hT], E⟩
  refine Sq.notF .plain rfl rfl ?_
  refine Sq.move .plain rfl rfl ?_
  refine Sq.off rfl rfl rfl rfl rfl rfl ?_
  refine Sq.off rfl rfl rfl rfl rfl rfl ?_
  refine Sq.pickT .plain rfl rfl rfl ?_
  refine Sq.move .plain rfl rfl ?_
  refine Sq.off rfl rfl rfl rfl rfl rfl ?_
  refine Sq.off rfl rfl rfl rfl rfl rfl ?_
  refine Sq.pickT .plain rfl rfl rfl ?_
  refine Sq.nil ?_
  refine Eq.next ?_
  refine Cq.thn rfl ?_
  refine Cq.seq ?_
  refine Cq.region ?_
  refine Sq.assign .plain rfl rfl ?_
  refine Sq.nil ?_
  refine Eq.next ?_
  refine Cq.ret ?_
  refine Eq.pastRet ?_
  refine Eq.ret1 rfl rfl ?_
  exact ⟨by rw [count_bad (by rw [hv]; simp)], E⟩
end Go.Proofs.Ytpnelflmecchlaa
set_option linter.unusedSimpArgs false
set_option linter.unusedVariables false
namespace Go.Proofs.Ytpnelflmecchlaa
open Go.RowKit
set_option maxRecDepth 100000 in
theorem lCount (w0 : World) (e : TypeId) (a0 : Option Addr) (c0 : Nat) (cs : List UInt8) (hc : Bytes w0 e (.slice a0 cs.length c0) cs) (hcap : cs.length ≤ c0) : Ret Try.prog 3 #[Value.slice a0 cs.length c0] w0 (fun v w => v = .bool true ∧ Ext w0 w) := by
  have E := Ext.refl w0
  refine Ret.of (args := [Value.slice a0 cs.length c0]) Try.func3 rfl rfl rfl ?_
  rintro _ rfl
  show Cq _ _ _ _ [(0, Value.slice a0 cs.length c0)] _
  refine Cq.seq ?_
  refine Cq.region ?_
  refine Sq.assign .plain rfl rfl ?_
  refine Sq.nil ?_
  refine Eq.next ?_
  refine Cq.seq ?_
  refine Cq.seq ?_
  refine Cq.region ?_
  refine Sq.move .plain rfl rfl ?_
  refine Sq.lenBytes (hc.ext E) .plain rfl und22 rfl ?_
  refine Sq.gtr .plain rfl rfl rfl ?_
  refine Sq.part (fun c1 => ?_) (fun c1 => ?_)
  · refine Sq.nil ?_
    refine Eq.next ?_
    refine Cq.thn rfl ?_
    refine Cq.seq ?_
    refine Cq.region ?_
    refine Sq.assign .plain rfl rfl ?_
    refine Sq.nil ?_
    refine Eq.next ?_
    refine Cq.ret ?_
    refine Eq.pastRet ?_
    refine Eq.ret1 rfl rfl ?_
    exact ⟨rfl, E⟩
  refine Sq.nil ?_
  refine Eq.next ?_
  refine Cq.els rfl ?_
  refine Cq.skip ?_
  refine Eq.next ?_
  refine Cq.seq ?_
  refine Cq.region ?_
  refine Sq.move .plain rfl rfl ?_
  refine Sq.call fn4 .plain rfl rfl (drawCount_c _ _ _ _ _ (hc.ext E) hcap) ?_
  rintro _ w3 ⟨⟨u5, k6, a7, rfl, ⟨nx8, ac9, rfl, hn10, ha11⟩, hsm12, hk13⟩, e4⟩
  have hs14 := Below.size E
  have hs15 := Below.size e4
  replace E := E.trans e4
  refine Sq.move .plain rfl rfl ?_
  refine Sq.extract .plain rfl rfl rfl ?_
  refine Sq.extract .plain rfl rfl rfl ?_
  refine Sq.alloc zero26 .plain rfl (fun b16 w17 e18 hB19 hlo20 => ?_)
  have hd21 := Nat.le_trans (Below.size E) hlo20
  have hs22 := Below.size e18
  replace E := E.trans e18
  replace hn10 := hn10.ext e18
  replace ha11 := ha11.ext e18
  refine Sq.storeAgg agg26 .plain rfl rfl (one_cons rfl (one_cons (Rows.one hn10) (one_cons (Row.one ha11) one_nil))) hB19 rfl rfl (fun w23 g24 hB25 => ?_)
  have hs26 := World.grownBy.size g24
  replace E := E.grown g24 (fun k hk => by injection hk with hk; subst hk; omega)
  replace hn10 := hn10.stored g24 hB19 (by decide) (by decide)
  replace ha11 := ha11.stored g24 hB19 (by decide)
  replace hB19 := hB25
  refine Sq.assign .plain rfl rfl ?_
  refine Sq.nil ?_
  refine Eq.next ?_
  refine Cq.seq ?_
  refine Cq.region ?_
  refine Sq.loadAgg agg26 .plain rfl rfl hB19 rfl ?_
  refine Sq.move .plain rfl rfl ?_
  have hd30 := hB19.lt
  refine Sq.call fn5 .plain rfl rfl (count_c _ a7 _ _ hn10 ha11 k6 (by omega)) ?_
  rintro _ w28 ⟨rfl, e29⟩
  have hs31 := Below.size E
  have hs32 := Below.size e29
  replace E := E.trans e29
  replace hn10 := hn10.ext e29
  replace ha11 := ha11.ext e29
  replace hB19 := hB19.ext e29
  refine Sq.assign .plain rfl rfl ?_
  refine Sq.nil ?_
  refine Eq.next ?_
  refine Cq.seq ?_
  refine Cq.seq ?_
  refine Cq.region ?_
  refine Sq.move .plain rfl rfl ?_
  refine Sq.loadAgg agg26 .plain rfl rfl hB19 rfl ?_
  refine Sq.move .plain rfl rfl ?_
  have hd36 := hB19.lt
  refine Sq.call fn6 .plain rfl rfl (sCount_c _ a7 _ _ hn10 ha11 k6 (by omega)) ?_
  rintro _ w34 ⟨rfl, e35⟩
  have hs37 := Below.size E
  have hs38 := Below.size e35
  replace E := E.trans e35
  replace hn10 := hn10.ext e35
  replace ha11 := ha11.ext e35
  replace hB19 := hB19.ext e35
  refine Sq.neq .plain rfl rfl rfl ?_
  refine Sq.isF (by omega) ?_
  refine Sq.move .plain rfl rfl ?_
  refine Sq.move (.met rfl rfl rfl) rfl rfl ?_
  refine Sq.lss (.met rfl rfl rfl) rfl rfl rfl ?_
  refine Sq.part (fun hlt => ?_) (fun hlt => ?_)
  · refine Sq.pickF .plain rfl rfl rfl ?_
    refine Sq.move .plain rfl rfl ?_
    refine Sq.off rfl rfl rfl rfl rfl rfl ?_
    refine Sq.off rfl rfl rfl rfl rfl rfl ?_
    refine Sq.pickT .plain rfl rfl rfl ?_
    refine Sq.nil ?_
    refine Eq.next ?_
    refine Cq.thn rfl ?_
    refine Cq.seq ?_
    refine Cq.region ?_
    refine Sq.move .plain rfl rfl ?_
    refine Sq.loadAgg agg26 .plain rfl rfl hB19 rfl ?_
    refine Sq.move .plain rfl rfl ?_
    have hd42 := hB19.lt
    refine Sq.call fn6 .plain rfl rfl (sCount_c _ a7 _ _ hn10 ha11 k6 (by omega)) ?_
    rintro _ w40 ⟨rfl, e41⟩
    have hs43 := Below.size E
    have hs44 := Below.size e41
    replace E := E.trans e41
    refine Sq.eql .plain rfl rfl rfl ?_
    refine Sq.isT (by omega) ?_
    refine Sq.assign .plain rfl rfl ?_
    refine Sq.nil ?_
    refine Eq.next ?_
    refine Cq.ret ?_
    refine Eq.pastRet ?_
    refine Eq.ret1 rfl rfl ?_
    exact ⟨rfl, E⟩
  refine Sq.pickF .plain rfl rfl rfl ?_
  refine Sq.move .plain rfl rfl ?_
  refine Sq.move (.met rfl rfl rfl) rfl rfl ?_
  refine Sq.gtr (.met rfl rfl rfl) rfl rfl rfl ?_
  refine Sq.part (fun h3 => ?_) (fun h3 => ?_)
  · refine Sq.pickF .plain rfl rfl rfl ?_
    refine Sq.nil ?_
    refine Eq.next ?_
    refine Cq.thn rfl ?_
    refine Cq.seq ?_
    refine Cq.region ?_
    refine Sq.move .plain rfl rfl ?_
    refine Sq.loadAgg agg26 .plain rfl rfl hB19 rfl ?_
    refine Sq.move .plain rfl rfl ?_
    have hd48 := hB19.lt
    refine Sq.call fn6 .plain rfl rfl (sCount_c _ a7 _ _ hn10 ha11 k6 (by omega)) ?_
    rintro _ w46 ⟨rfl, e47⟩
    have hs49 := Below.size E
    have hs50 := Below.size e47
    replace E := E.trans e47
    refine Sq.eql .plain rfl rfl rfl ?_
    refine Sq.isT (by omega) ?_
    refine Sq.assign .plain rfl rfl ?_
    refine Sq.nil ?_
    refine Eq.next ?_
    refine Cq.ret ?_
    refine Eq.pastRet ?_
    refine Eq.ret1 rfl rfl ?_
    exact ⟨rfl, E⟩
  refine Sq.pickF .plain rfl rfl rfl ?_
  refine Sq.nil ?_
  refine Eq.next ?_
  refine Cq.els rfl ?_
  refine Cq.skip ?_
  refine Eq.next ?_
  refine Cq.seq ?_
  refine Cq.region ?_
  refine Sq.assign .plain rfl rfl ?_
  refine Sq.nil ?_
  refine Eq.next ?_
  refine Cq.seq ?_
  refine Cq.seq ?_
  refine Cq.region ?_
  refine Sq.assign .plain rfl rfl ?_
  refine Sq.nil ?_
  refine Eq.next ?_
  refine Cq.block ?_
  obtain ⟨hv, hk7⟩ := count_ok (a := a7) (n := k6) (by omega)
  have hal := (validA_spec.1 hv).1
  have hkk : 0 ≤ k6 ∧ k6 ≤ 3 := by omega
  have hnb := numTo_bd (k := (letters a7.al).length) (n := k6.toNat + 1) (letters_len6 _) (by omega)
  refine Cq.loop (fun nn w ls => ∃ (i : Int), ∃ (c : Int), ls = [(3, Value.pointer (some ⟨b16, 0, none⟩)), (4, Value.int .i64 k6), (5, Value.int .i64 (count a7 k6)), (6, Value.int .i64 c), (7, Value.int .i64 i)] ∧ (0 ≤ i ∧ i.toNat ≤ numTo (letters a7.al).length (k6.toNat + 1)) ∧ c = countTo a7 i.toNat ∧ Ext w0 w ∧ Blk w b16 26 [Value.int .i64 a7.al, nx8, ac9] ∧ Rows w 38 3 nx8 a7.next ∧ Bools w 4 ac9 a7.acc ∧ nn = (300 - i).toNat) _ _ ⟨0, 0, rfl, by omega, rfl, E, hB19, hn10, ha11, rfl⟩ (.cons rfl (.cons rfl (.cons rfl (.cons rfl (.cons rfl (.nil)))))) ?_
  rintro nn wl1 ls ⟨i, c, rfl, hi, hc, E, hB19, hn10, ha11, rfl⟩
  have hs51 := Below.size E
  have hcb := countTo_bd a7 i.toNat
  refine Cq.seq ?_
  refine Cq.seq ?_
  refine Cq.region ?_
  refine Sq.move .plain rfl rfl ?_
  refine Sq.lss .plain rfl rfl rfl ?_
  refine Sq.part (fun c52 => ?_) (fun c52 => ?_)
  · refine Sq.nil ?_
    refine Eq.next ?_
    refine Cq.thn rfl ?_
    refine Cq.skip ?_
    refine Eq.next ?_
    refine Cq.seq ?_
    refine Cq.block ?_
    refine Cq.seq ?_
    refine Cq.region ?_
    refine Sq.move .plain rfl rfl ?_
    refine Sq.fieldAddr fld26_0 .plain rfl rfl ?_
    refine Sq.loadB one3 .plain rfl rfl hB19 rfl ?_
    have hd59 := hB19.lt
    refine Sq.call fn7 .plain rfl rfl (wordAt_c i a7.al (by omega) (hal) _) ?_
    rintro _ w54 ⟨⟨t56, ok57, rfl, hwp58⟩, e55⟩
    have hs60 := Below.size E
    have hs61 := Below.size e55
    replace E := E.trans e55
    replace hB19 := hB19.ext e55
    replace hn10 := hn10.ext e55
    replace ha11 := ha11.ext e55
    refine Sq.move .plain rfl rfl ?_
    refine Sq.extract .plain rfl rfl rfl ?_
    refine Sq.extract .plain rfl rfl rfl ?_
    refine Sq.assign .plain rfl rfl ?_
    refine Sq.assign .plain rfl rfl ?_
    refine Sq.nil ?_
    refine Eq.next ?_
    refine Cq.seq ?_
    refine Cq.seq ?_
    refine Cq.region ?_
    refine Sq.move .plain rfl rfl ?_
    refine Sq.partB (fun hok => ?_) (fun hok => ?_)
    · refine Sq.notT .plain rfl rfl ?_
      refine Sq.move .plain rfl rfl ?_
      refine Sq.move (.met rfl rfl rfl) rfl rfl ?_
      refine Sq.lenStr (.met rfl rfl rfl) rfl und9 rfl ?_
      refine Sq.move (.met rfl rfl rfl) rfl rfl ?_
      refine Sq.gtr (.met rfl rfl rfl) rfl rfl rfl ?_
      refine Sq.part (fun hlen => ?_) (fun hlen => ?_)
      · refine Sq.pickF .plain rfl rfl rfl ?_
        refine Sq.nil ?_
        refine Eq.next ?_
        refine Cq.thn rfl ?_
        refine Cq.exit ?_
        refine Eq.past ?_
        refine Eq.miss rfl ?_
        refine Eq.past ?_
        refine Eq.past ?_
        refine Eq.hit ?_
        refine Eq.next ?_
        refine Cq.seq ?_
        refine Cq.region ?_
        refine Sq.move .plain rfl rfl ?_
        refine Sq.move .plain rfl rfl ?_
        refine Sq.eql .plain rfl rfl rfl ?_
        refine Sq.isT ((by rw [hc]; exact count_stop hv hkk (by omega) hi.2 hwp58 (fun hc => by first | exact hlen | (rw [hok] at hc; cases hc)))) ?_
        refine Sq.assign .plain rfl rfl ?_
        refine Sq.nil ?_
        refine Eq.next ?_
        refine Cq.ret ?_
        refine Eq.ret1 rfl rfl ?_
        exact ⟨rfl, E⟩
      refine Sq.pickF .plain rfl rfl rfl ?_
      refine Sq.nil ?_
      refine Eq.next ?_
      refine Cq.els rfl ?_
      refine Cq.skip ?_
      refine Eq.next ?_
      refine Cq.seq ?_
      refine Cq.region ?_
      subst hok
      have hwz := (hwp58).size.2
      refine Sq.loadAgg agg26 .plain rfl rfl hB19 rfl ?_
      refine Sq.move .plain rfl rfl ?_
      have hd65 := hB19.lt
      refine Sq.call fn8 .plain rfl rfl (accepts_c _ a7 _ _ hn10 ha11 t56 (by omega)) ?_
      rintro _ w63 ⟨rfl, e64⟩
      have hs66 := Below.size E
      have hs67 := Below.size e64
      replace E := E.trans e64
      replace hB19 := hB19.ext e64
      replace hn10 := hn10.ext e64
      replace ha11 := ha11.ext e64
      refine Sq.partB (fun hacc => ?_) (fun hacc => ?_)
      · refine Sq.nil ?_
        refine Eq.next ?_
        refine Cq.thn rfl ?_
        refine Cq.region ?_
        refine Sq.move .plain rfl rfl ?_
        refine Sq.add .plain rfl rfl rfl (by omega) ?_
        refine Sq.assign .plain rfl rfl ?_
        refine Sq.nil ?_
        refine Eq.end ?_
        refine Eq.next ?_
        refine Cq.region ?_
        refine Sq.move .plain rfl rfl ?_
        refine Sq.add .plain rfl rfl rfl (by omega) ?_
        refine Sq.assign .plain rfl rfl ?_
        refine Sq.nil ?_
        have e1 := toNat_succ hi.1
        have hnx := count_next hv hkk hi.1 hwp58 (by omega)
        refine Eq.round _ _ ⟨i + 1, _, rfl, by omega, by rw [e1, hnx.2, hacc, hc]; first | rfl | (rw [if_neg (by decide)]; omega), E, hB19, hn10, ha11, rfl⟩ (by omega) (.cons rfl (.cons rfl (.cons rfl (.cons rfl (.cons rfl (.nil))))))
      refine Sq.nil ?_
      refine Eq.next ?_
      refine Cq.els rfl ?_
      refine Cq.skip ?_
      refine Eq.end ?_
      refine Eq.next ?_
      refine Cq.region ?_
      refine Sq.move .plain rfl rfl ?_
      refine Sq.add .plain rfl rfl rfl (by omega) ?_
      refine Sq.assign .plain rfl rfl ?_
      refine Sq.nil ?_
      have e1 := toNat_succ hi.1
      have hnx := count_next hv hkk hi.1 hwp58 (by omega)
      refine Eq.round _ _ ⟨i + 1, _, rfl, by omega, by rw [e1, hnx.2, hacc, hc]; first | rfl | (rw [if_neg (by decide)]; omega), E, hB19, hn10, ha11, rfl⟩ (by omega) (.cons rfl (.cons rfl (.cons rfl (.cons rfl (.cons rfl (.nil))))))
    refine Sq.notF .plain rfl rfl ?_
    refine Sq.move .plain rfl rfl ?_
    refine Sq.off rfl rfl rfl rfl rfl rfl ?_
    refine Sq.off rfl rfl rfl rfl rfl rfl ?_
    refine Sq.off rfl rfl rfl rfl rfl rfl ?_
    refine Sq.off rfl rfl rfl rfl rfl rfl ?_
    refine Sq.pickT .plain rfl rfl rfl ?_
    refine Sq.nil ?_
    refine Eq.next ?_
    refine Cq.thn rfl ?_
    refine Cq.exit ?_
    refine Eq.past ?_
    refine Eq.miss rfl ?_
    refine Eq.past ?_
    refine Eq.past ?_
    refine Eq.hit ?_
    refine Eq.next ?_
    refine Cq.seq ?_
    refine Cq.region ?_
    refine Sq.move .plain rfl rfl ?_
    refine Sq.move .plain rfl rfl ?_
    refine Sq.eql .plain rfl rfl rfl ?_
    refine Sq.isT ((by rw [hc]; exact count_stop hv hkk (by omega) hi.2 hwp58 (fun hc => by first | exact hlen | (rw [hok] at hc; cases hc)))) ?_
    refine Sq.assign .plain rfl rfl ?_
    refine Sq.nil ?_
    refine Eq.next ?_
    refine Cq.ret ?_
    refine Eq.ret1 rfl rfl ?_
    exact ⟨rfl, E⟩
  refine Sq.nil ?_
  refine Eq.next ?_
  refine Cq.els rfl ?_
  refine Cq.exit ?_
  refine Eq.past ?_
  refine Eq.past ?_
  refine Eq.hit ?_
  refine Eq.next ?_
  refine Cq.seq ?_
  refine Cq.region ?_
  refine Sq.move .plain rfl rfl ?_
  refine Sq.move .plain rfl rfl ?_
  refine Sq.eql .plain rfl rfl rfl ?_
  refine Sq.isT ((by omega)) ?_
  refine Sq.assign .plain rfl rfl ?_
  refine Sq.nil ?_
  refine Eq.next ?_
  refine Cq.ret ?_
  refine Eq.ret1 rfl rfl ?_
  exact ⟨rfl, E⟩
end Go.Proofs.Ytpnelflmecchlaa
set_option linter.unusedSimpArgs false
set_option linter.unusedVariables false
namespace Go.Proofs.Ytpnelflmecchlaa
open Go.RowKit
def IsRow (k : IntKind) (w : World) (a : Option Addr) (len cap : Nat) (zs : List Int) : Prop :=
  (a = none ∧ len = 0 ∧ cap = 0 ∧ zs = []) ∨
  ∃ x, a = some x ∧ len ≤ cap ∧ cap ≤ maxLen ∧ zs.length = cap ∧ (∀ i, i < zs.length → w.cell? (x.add i) = some (.int k (zs.getD i 0))) ∧ ∀ n ∈ zs, (Lit.int k n).wf = true
theorem wf8 {n : Int} (h : (Lit.int .u8 n).wf = true) : 0 ≤ n ∧ n ≤ 255 := by
  simp [Lit.wf, IntKind.min, IntKind.max, IntKind.signed, IntKind.bits] at h
  omega
theorem bytes_of {w : World} {a : Option Addr} {len cap : Nat} {zs : List Int} (h : IsRow .u8 w a len cap zs) : ∃ e xs, len = List.length xs ∧ Bytes w e (.slice a xs.length cap) xs ∧ xs.length ≤ cap := by
  rcases h with ⟨rfl, rfl, rfl, rfl⟩ | ⟨x, rfl, hl, hm, hz, hcell, hwz⟩
  · exact ⟨0, [], rfl, .inl ⟨rfl, none, 0, rfl, fun _ => rfl⟩, Nat.le_refl _⟩
  · rcases Nat.eq_zero_or_pos len with h0 | h0
    · subst h0
      exact ⟨0, [], rfl, .inl ⟨rfl, some x, cap, rfl, fun h => by cases h⟩, Nat.zero_le _⟩
    · obtain ⟨b, o, s⟩ := x
      have hc := hcell 0 (by omega)
      have hs : s = none := by simpa [Addr.add] using World.cell?_spot hc
      subst hs
      have hb : ∃ cur e fr, w.heap[b]? = some (.cells cur e fr) := by
        rw [addr_add] at hc
        unfold World.cell? at hc
        simp only at hc
        cases hw : w.heap[b]? with
        | none => rw [hw] at hc; simp at hc
        | some ob =>
          rw [hw] at hc
          cases ob <;> simp at hc
          rename_i cur e fr
          exact ⟨cur, e, fr, rfl⟩
      obtain ⟨cur, e, fr, hb⟩ := hb
      have hlen : ((zs.take len).map fun z => UInt8.ofNat z.toNat).length = len := by simp; omega
      refine ⟨e, (zs.take len).map fun z => UInt8.ofNat z.toNat, hlen.symm, .inr ⟨b, o, cap, cur, fr, by simp, hb, fun i y hy => ?_⟩, by omega⟩
      have hi : i < len := by
        have := (List.getElem?_eq_some_iff.1 hy).1
        simp at this; omega
      have hi2 : i < zs.length := by omega
      have h1 := hcell i hi2
      rw [addr_add] at h1
      have h2 : y = .int .u8 (zs.getD i 0) := by
        have hw := wf8 (hwz _ (List.getElem_mem hi2))
        have e2 := u8_of hw
        simp [List.getElem?_take, hi, hi2] at hy
        rw [← hy]
        simp [hi2]
        omega
      rw [h2]
      simpa [World.cell?, hb] using h1
end Go.Proofs.Ytpnelflmecchlaa
