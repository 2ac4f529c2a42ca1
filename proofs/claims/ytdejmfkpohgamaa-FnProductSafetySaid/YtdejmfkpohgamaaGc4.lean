/-
  The texts of this proof, joined (wip/merge.py): the calculus of slots, plain mathematics, walks.
-/
import Derived.Test.YtdejmfkpohgamaaGc3
set_option linter.unusedSimpArgs false
set_option linter.unusedVariables false
namespace Go.Proofs.Ytdejmfkpohgamaa
open Go.RowKit
set_option maxRecDepth 100000 in
theorem l1Text_c (x : Int) (hx : 0 ≤ x ∧ x ≤ 100) (w0 : World) : Ret Try.prog 98 #[Value.int .i64 x] w0 (fun v w => v = .string (chr x) ∧ Ext w0 w) := by
  have E := Ext.refl w0
  refine Ret.of (args := [Value.int .i64 x]) Try.func98 rfl rfl rfl ?_
  rintro _ rfl
  show Cq _ _ _ _ [(0, Value.int .i64 x)] _
  refine Cq.seq ?_
  refine Cq.region ?_
  refine Sq.assign .plain rfl rfl ?_
  refine Sq.nil ?_
  refine Eq.next ?_
  refine Cq.seq ?_
  refine Cq.region ?_
  refine Sq.move .plain rfl rfl ?_
  refine Sq.add .plain rfl rfl rfl (by omega) ?_
  refine Sq.conv8 conv3_5 .plain rfl rfl (by omega) ?_
  refine Sq.lit sl22 rfl rfl .plain rfl rfl (one_cons rfl one_nil) (fun b1 w2 e3 hlo4 ho5 _ => ?_)
  replace ho5 := ho5 w0.heap.size (Nat.le_refl _)
  have hs7 := Below.size e3
  replace E := E.trans e3
  refine Sq.val .plain rfl rfl (Still.text1 und22 und8_22 und9 ho5 (by omega) rfl) ?_
  refine Sq.assign .plain rfl rfl ?_
  refine Sq.nil ?_
  refine Eq.next ?_
  refine Cq.ret ?_
  refine Eq.ret1 rfl rfl ?_
  exact ⟨rfl, E⟩
set_option maxRecDepth 100000 in
theorem fmtAl_c (al : Int) (w0 : World) : Ret Try.prog 128 #[Value.int .i64 al] w0 (fun v w => v = .string (fmtAl al) ∧ Ext w0 w) := by
  have E := Ext.refl w0
  refine Ret.of (args := [Value.int .i64 al]) Try.func128 rfl rfl rfl ?_
  rintro _ rfl
  show Cq _ _ _ _ [(0, Value.int .i64 al)] _
  refine Cq.seq ?_
  refine Cq.region ?_
  refine Sq.assign .plain rfl rfl ?_
  refine Sq.nil ?_
  refine Eq.next ?_
  refine Cq.seq ?_
  refine Cq.seq ?_
  refine Cq.region ?_
  refine Sq.move .plain rfl rfl ?_
  refine Sq.call fn89 .plain rfl rfl (l1Alphabet_c _ _) ?_
  rintro _ _ ⟨rfl, rfl⟩
  refine Sq.part (fun c1 => ?_) (fun c1 => ?_)
  · refine Sq.notT .plain rfl rfl ?_
    refine Sq.nil ?_
    refine Eq.next ?_
    refine Cq.els rfl ?_
    refine Cq.skip ?_
    refine Eq.next ?_
    refine Cq.seq ?_
    refine Cq.seq ?_
    refine Cq.region ?_
    refine Sq.move .plain rfl rfl ?_
    refine Sq.eql .plain rfl rfl rfl ?_
    refine Sq.part (fun c2 => ?_) (fun c2 => ?_)
    · refine Sq.nil ?_
      refine Eq.next ?_
      refine Cq.thn rfl ?_
      refine Cq.seq ?_
      refine Cq.region ?_
      refine Sq.assign .plain rfl rfl ?_
      refine Sq.nil ?_
      refine Eq.next ?_
      refine Cq.ret ?_
      refine Eq.pastRet ?_
      refine Eq.ret1 rfl rfl ?_
      exact ⟨by first | rw [fmtAl_bad (by omega)] | rw [fmtAl_zero (by omega)] | rw [fmtAl_good (by omega) (by omega) (k := k.toNat) (by omega)], E⟩
    refine Sq.nil ?_
    refine Eq.next ?_
    refine Cq.els rfl ?_
    refine Cq.skip ?_
    refine Eq.next ?_
    refine Cq.seq ?_
    refine Cq.region ?_
    refine Sq.assign .plain rfl rfl ?_
    refine Sq.nil ?_
    refine Eq.next ?_
    refine Cq.seq ?_
    refine Cq.region ?_
    refine Sq.move .plain rfl rfl ?_
    refine Sq.call fn53 .plain rfl rfl (l1Letters_c al (by omega) _) ?_
    rintro v3 w4 ⟨hl6, e5⟩
    have hs7 := Below.size E
    have hs8 := Below.size e5
    replace E := E.trans e5
    refine Sq.assign .plain rfl rfl ?_
    refine Sq.nil ?_
    refine Eq.next ?_
    refine Cq.seq ?_
    refine Cq.seq ?_
    refine Cq.region ?_
    refine Sq.assign .plain rfl rfl ?_
    refine Sq.nil ?_
    refine Eq.next ?_
    refine Cq.block ?_
    refine Cq.loop (fun nn w ls => ∃ (k : Int), ls = [(0, Value.int .i64 al), (3, Value.string (fmtTo al k.toNat)), (4, v3), (5, Value.int .i64 k)] ∧ (0 ≤ k ∧ k ≤ (letters al).length) ∧ Ext w0 w ∧ Own w w0.heap.size 3 v3 ((letters al).map (Value.int .i64)) ∧ nn = ((letters al).length - k).toNat) _ _ ⟨0, rfl, by omega, E, hl6, rfl⟩ (.cons rfl (.cons rfl (.cons rfl (.cons rfl (.nil))))) ?_
    rintro nn wl1 ls ⟨k, rfl, hk, E, hl6, rfl⟩
    have hs9 := Below.size E
    have hlet := letters_len6 al
    have hsz := fmtTo_size al k.toNat
    have hlt := letters_at al (k := k.toNat)
    refine Cq.seq ?_
    refine Cq.seq ?_
    refine Cq.region ?_
    refine Sq.move .plain rfl rfl ?_
    refine Sq.move .plain rfl rfl ?_
    refine Sq.lenInts (Own.row hl6) .plain rfl und56 rfl ?_
    refine Sq.lss .plain rfl rfl rfl ?_
    refine Sq.part (fun c10 => ?_) (fun c10 => ?_)
    · refine Sq.nil ?_
      refine Eq.next ?_
      refine Cq.thn rfl ?_
      refine Cq.skip ?_
      refine Eq.next ?_
      refine Cq.seq ?_
      refine Cq.block ?_
      refine Cq.region ?_
      refine Sq.move .plain rfl rfl ?_
      refine Sq.move .plain rfl rfl ?_
      refine Sq.move .plain rfl rfl ?_
      refine Sq.idxInts sl56 one3 (Own.row hl6) .plain rfl rfl rfl .plain rfl rfl (by omega) (by omega) ?_
      refine Sq.call fn98 .plain rfl rfl (l1Text_c ((letters al).getD k.toNat 0) (by (have := hlt (by omega); omega)) _) ?_
      rintro _ w12 ⟨rfl, e13⟩
      have hs14 := Below.size E
      have hs15 := Below.size e13
      replace E := E.trans e13
      replace hl6 := hl6.ext e13
      refine Sq.cat .plain rfl rfl rfl (by rw [chr_size]; omega) ?_
      refine Sq.assign .plain rfl rfl ?_
      refine Sq.nil ?_
      refine Eq.end ?_
      refine Eq.next ?_
      refine Cq.region ?_
      refine Sq.move .plain rfl rfl ?_
      refine Sq.add .plain rfl rfl rfl (by omega) ?_
      refine Sq.assign .plain rfl rfl ?_
      refine Sq.nil ?_
      have e1 := toNat_succ hk.1
      rw [← fmtTo_succ (by omega), ← e1]
      refine Eq.round _ _ ⟨k + 1, rfl, by omega, E, hl6, rfl⟩ (by omega) (.cons rfl (.cons rfl (.cons rfl (.cons rfl (.nil)))))
    refine Sq.nil ?_
    refine Eq.next ?_
    refine Cq.els rfl ?_
    refine Cq.exit ?_
    refine Eq.past ?_
    refine Eq.past ?_
    refine Eq.hit ?_
    refine Eq.next ?_
    refine Cq.seq ?_
    refine Cq.region ?_
    refine Sq.move .plain rfl rfl ?_
    refine Sq.assign .plain rfl rfl ?_
    refine Sq.nil ?_
    refine Eq.next ?_
    refine Cq.ret ?_
    refine Eq.ret1 rfl rfl ?_
    exact ⟨by first | rw [fmtAl_bad (by omega)] | rw [fmtAl_zero (by omega)] | rw [fmtAl_good (by omega) (by omega) (k := k.toNat) (by omega)], E⟩
  refine Sq.notF .plain rfl rfl ?_
  refine Sq.nil ?_
  refine Eq.next ?_
  refine Cq.thn rfl ?_
  refine Cq.seq ?_
  refine Cq.region ?_
  refine Sq.assign .plain rfl rfl ?_
  refine Sq.nil ?_
  refine Eq.next ?_
  refine Cq.ret ?_
  refine Eq.pastRet ?_
  refine Eq.ret1 rfl rfl ?_
  exact ⟨by first | rw [fmtAl_bad (by omega)] | rw [fmtAl_zero (by omega)] | rw [fmtAl_good (by omega) (by omega) (k := k.toNat) (by omega)], E⟩
set_option maxRecDepth 100000 in
theorem parseAl_c (s : ByteArray) (w0 : World) : Ret Try.prog 111 #[Value.string s] w0 (fun v w => (∃ n ok, v = .tuple #[.int .i64 n, .bool ok] ∧ 0 ≤ n ∧ n ≤ 63) ∧ Ext w0 w) := by
  have E := Ext.refl w0
  refine Ret.of (args := [Value.string s]) Try.func111 rfl rfl rfl ?_
  rintro _ rfl
  show Cq _ _ _ _ [(0, Value.string s)] _
  refine Cq.seq ?_
  refine Cq.region ?_
  refine Sq.assign .plain rfl rfl ?_
  refine Sq.assign .plain rfl rfl ?_
  refine Sq.nil ?_
  refine Eq.next ?_
  refine Cq.seq ?_
  refine Cq.seq ?_
  refine Cq.region ?_
  refine Sq.assign .plain rfl rfl ?_
  refine Sq.nil ?_
  refine Eq.next ?_
  refine Cq.block ?_
  refine Cq.loop (fun nn w ls => ∃ (k : Int), ls = [(0, Value.string s), (4, Value.int .i64 k)] ∧ (0 ≤ k ∧ k ≤ 64) ∧ Ext w0 w ∧ nn = (64 - k).toNat) _ _ ⟨0, rfl, by omega, E, rfl⟩ (.cons rfl (.cons rfl (.nil))) ?_
  rintro nn wl1 ls ⟨k, rfl, hk, E, rfl⟩
  have hs1 := Below.size E
  refine Cq.seq ?_
  refine Cq.seq ?_
  refine Cq.region ?_
  refine Sq.move .plain rfl rfl ?_
  refine Sq.leq .plain rfl rfl rfl ?_
  refine Sq.part (fun c2 => ?_) (fun c2 => ?_)
  · refine Sq.nil ?_
    refine Eq.next ?_
    refine Cq.thn rfl ?_
    refine Cq.skip ?_
    refine Eq.next ?_
    refine Cq.seq ?_
    refine Cq.block ?_
    refine Cq.seq ?_
    refine Cq.region ?_
    refine Sq.move .plain rfl rfl ?_
    refine Sq.call fn128 .plain rfl rfl (fmtAl_c k _) ?_
    rintro _ w4 ⟨rfl, e5⟩
    have hs6 := Below.size E
    have hs7 := Below.size e5
    replace E := E.trans e5
    refine Sq.move .plain rfl rfl ?_
    refine Sq.eqlS .plain rfl rfl rfl ?_
    refine Sq.part (fun c8 => ?_) (fun c8 => ?_)
    · refine Sq.nil ?_
      refine Eq.next ?_
      refine Cq.thn rfl ?_
      refine Cq.seq ?_
      refine Cq.region ?_
      refine Sq.move .plain rfl rfl ?_
      refine Sq.assign .plain rfl rfl ?_
      refine Sq.assign .plain rfl rfl ?_
      refine Sq.nil ?_
      refine Eq.next ?_
      refine Cq.ret ?_
      refine Eq.outRet ?_
      refine Eq.pastRet ?_
      refine Eq.pastRet ?_
      refine Eq.outRet ?_
      refine Eq.pastRet ?_
      refine Eq.ret2 rfl rfl rfl ?_
      exact ⟨⟨_, _, rfl, by omega⟩, E⟩
    refine Sq.nil ?_
    refine Eq.next ?_
    refine Cq.els rfl ?_
    refine Cq.skip ?_
    refine Eq.end ?_
    refine Eq.next ?_
    refine Cq.region ?_
    refine Sq.move .plain rfl rfl ?_
    refine Sq.add .plain rfl rfl rfl (by omega) ?_
    refine Sq.assign .plain rfl rfl ?_
    refine Sq.nil ?_
    refine Eq.round _ _ ⟨k + 1, rfl, by omega, E, rfl⟩ (by omega) (.cons rfl (.cons rfl (.nil)))
  refine Sq.nil ?_
  refine Eq.next ?_
  refine Cq.els rfl ?_
  refine Cq.exit ?_
  refine Eq.past ?_
  refine Eq.past ?_
  refine Eq.hit ?_
  refine Eq.next ?_
  refine Cq.seq ?_
  refine Cq.region ?_
  refine Sq.assign .plain rfl rfl ?_
  refine Sq.assign .plain rfl rfl ?_
  refine Sq.nil ?_
  refine Eq.next ?_
  refine Cq.ret ?_
  refine Eq.ret2 rfl rfl rfl ?_
  exact ⟨⟨_, _, rfl, by omega⟩, E⟩
set_option maxRecDepth 100000 in
theorem dec_c (n : Int) (hn : 0 ≤ n ∧ n ≤ 1000000) (w0 : World) : Ret Try.prog 130 #[Value.int .i64 n] w0 (fun v w => (∃ s, v = .string s ∧ (s.size : Int) ≤ n + 1) ∧ Ext w0 w) := by
  have E := Ext.refl w0
  refine Ret.of (args := [Value.int .i64 n]) Try.func130 rfl rfl rfl ?_
  rintro _ rfl
  show Cq _ _ _ _ [(0, Value.int .i64 n)] _
  refine Cq.seq ?_
  refine Cq.region ?_
  refine Sq.assign .plain rfl rfl ?_
  refine Sq.nil ?_
  refine Eq.next ?_
  refine Cq.seq ?_
  refine Cq.seq ?_
  refine Cq.region ?_
  refine Sq.move .plain rfl rfl ?_
  refine Sq.lss .plain rfl rfl rfl ?_
  refine Sq.isF (by omega) ?_
  refine Sq.nil ?_
  refine Eq.next ?_
  refine Cq.els rfl ?_
  refine Cq.skip ?_
  refine Eq.next ?_
  refine Cq.seq ?_
  refine Cq.seq ?_
  refine Cq.region ?_
  refine Sq.move .plain rfl rfl ?_
  refine Sq.lss .plain rfl rfl rfl ?_
  refine Sq.isF (by omega) ?_
  refine Sq.nil ?_
  refine Eq.next ?_
  refine Cq.els rfl ?_
  refine Cq.skip ?_
  refine Eq.next ?_
  refine Cq.seq ?_
  refine Cq.region ?_
  refine Sq.assign .plain rfl rfl ?_
  refine Sq.nil ?_
  refine Eq.next ?_
  refine Cq.seq ?_
  refine Cq.block ?_
  refine Cq.loop (fun nn w ls => ∃ (m : Int), ∃ (t : ByteArray), ls = [(0, Value.int .i64 m), (3, Value.string t)] ∧ (0 ≤ m ∧ m ≤ n ∧ (t.size : Int) + m ≤ n) ∧ Ext w0 w ∧ nn = m.toNat) _ _ ⟨_, _, rfl, ⟨by omega, by omega, by show ((0 : Nat) : Int) + n ≤ n; omega⟩, E, rfl⟩ (.cons rfl (.cons rfl (.nil))) ?_
  rintro nn wl1 ls ⟨m, t, rfl, hm, E, rfl⟩
  have hs1 := Below.size E
  refine Cq.seq ?_
  refine Cq.seq ?_
  refine Cq.region ?_
  refine Sq.move .plain rfl rfl ?_
  refine Sq.gtr .plain rfl rfl rfl ?_
  refine Sq.part (fun c2 => ?_) (fun c2 => ?_)
  · refine Sq.nil ?_
    refine Eq.next ?_
    refine Cq.thn rfl ?_
    refine Cq.skip ?_
    refine Eq.next ?_
    refine Cq.block ?_
    refine Cq.seq ?_
    refine Cq.region ?_
    refine Sq.move .plain rfl rfl ?_
    refine Sq.rem .plain rfl rfl rfl (by omega) ?_
    refine Sq.add .plain rfl rfl rfl (by omega) ?_
    refine Sq.conv8 conv3_5 .plain rfl rfl (by omega) ?_
    refine Sq.lit sl22 rfl rfl .plain rfl rfl (one_cons rfl one_nil) (fun b3 w4 e5 hlo6 ho7 _ => ?_)
    replace ho7 := ho7 wl1.heap.size (Nat.le_refl _)
    have hs9 := Below.size e5
    replace E := E.trans e5
    refine Sq.val .plain rfl rfl (Still.text1 und22 und8_22 und9 ho7 (by omega) rfl) ?_
    refine Sq.move .plain rfl rfl ?_
    refine Sq.cat .plain rfl rfl rfl (by show (1 + t.size : Nat) ≤ _; omega) ?_
    refine Sq.assign .plain rfl rfl ?_
    refine Sq.nil ?_
    refine Eq.next ?_
    refine Cq.region ?_
    refine Sq.move .plain rfl rfl ?_
    refine Sq.quo .plain rfl rfl rfl (by omega) ?_
    refine Sq.assign .plain rfl rfl ?_
    refine Sq.nil ?_
    refine Eq.end ?_
    refine Eq.round _ _ ⟨_, _, rfl, by rw [size_cat]; refine ⟨by omega, by omega, ?_⟩; show ((1 + t.size : Nat) : Int) + _ ≤ _; omega, E, rfl⟩ (by omega) (.cons rfl (.cons rfl (.nil)))
  refine Sq.nil ?_
  refine Eq.next ?_
  refine Cq.els rfl ?_
  refine Cq.exit ?_
  refine Eq.past ?_
  refine Eq.past ?_
  refine Eq.hit ?_
  refine Eq.next ?_
  refine Cq.seq ?_
  refine Cq.region ?_
  refine Sq.move .plain rfl rfl ?_
  refine Sq.add .plain rfl rfl rfl (by omega) ?_
  refine Sq.conv8 conv3_5 .plain rfl rfl (by omega) ?_
  refine Sq.lit sl22 rfl rfl .plain rfl rfl (one_cons rfl one_nil) (fun b10 w11 e12 hlo13 ho14 _ => ?_)
  replace ho14 := ho14 wl1.heap.size (Nat.le_refl _)
  have hs16 := Below.size e12
  replace E := E.trans e12
  refine Sq.val .plain rfl rfl (Still.text1 und22 und8_22 und9 ho14 (by omega) rfl) ?_
  refine Sq.move .plain rfl rfl ?_
  refine Sq.cat .plain rfl rfl rfl (by show (1 + t.size : Nat) ≤ _; omega) ?_
  refine Sq.assign .plain rfl rfl ?_
  refine Sq.nil ?_
  refine Eq.next ?_
  refine Cq.ret ?_
  refine Eq.ret1 rfl rfl ?_
  exact ⟨⟨_, rfl, by rw [size_cat]; show ((1 + t.size : Nat) : Int) ≤ _; omega⟩, E⟩
set_option maxRecDepth 100000 in
theorem cut_c (s : ByteArray) (c : Int) (hs : s.size ≤ 1000000) (w0 : World) : Ret Try.prog 110 #[Value.string s, Value.int .u8 c] w0 (fun v w => (∃ xs : List ByteArray, Own w w0.heap.size 9 v (xs.map Value.string) ∧ (1 ≤ xs.length ∧ xs.length ≤ s.size + 1) ∧ ∀ x ∈ xs, x.size ≤ s.size) ∧ Ext w0 w) := by
  have E := Ext.refl w0
  refine Ret.of (args := [Value.string s, Value.int .u8 c]) Try.func110 rfl rfl rfl ?_
  rintro _ rfl
  show Cq _ _ _ _ [(0, Value.string s), (1, Value.int .u8 c)] _
  refine Cq.seq ?_
  refine Cq.region ?_
  refine Sq.assign .plain rfl rfl ?_
  refine Sq.nil ?_
  refine Eq.next ?_
  refine Cq.seq ?_
  refine Cq.region ?_
  refine Sq.lit sl91 rfl rfl .plain rfl rfl one_nil (fun b1 w2 e3 hlo4 ho5 _ => ?_)
  replace ho5 := ho5 w0.heap.size (Nat.le_refl _)
  have hs7 := Below.size e3
  replace E := E.trans e3
  refine Sq.assign .plain rfl rfl ?_
  refine Sq.nil ?_
  refine Eq.next ?_
  refine Cq.seq ?_
  refine Cq.region ?_
  refine Sq.assign .plain rfl rfl ?_
  refine Sq.nil ?_
  refine Eq.next ?_
  refine Cq.seq ?_
  refine Cq.seq ?_
  refine Cq.region ?_
  refine Sq.assign .plain rfl rfl ?_
  refine Sq.nil ?_
  refine Eq.next ?_
  refine Cq.block ?_
  refine Cq.loop (fun nn w ls => ∃ (i : Int), ∃ (q : Int), ∃ (v : Value), ∃ (xs : List ByteArray), ls = [(0, Value.string s), (1, Value.int .u8 c), (5, v), (6, Value.int .i64 q), (7, Value.int .i64 i)] ∧ (0 ≤ q ∧ q ≤ i ∧ i ≤ s.size + 1) ∧ Own w w0.heap.size 9 v (xs.map Value.string) ∧ ((xs.length : Int) ≤ i ∧ (i = s.size + 1 → 1 ≤ xs.length) ∧ ∀ x ∈ xs, x.size ≤ s.size) ∧ Ext w0 w ∧ nn = ((s.size : Int) + 1 - i).toNat) _ _ ⟨0, 0, _, [], rfl, by omega, Own.mono ho5 (by omega), ⟨by simp, by intro h; omega, by simp⟩, E, rfl⟩ (.cons rfl (.cons rfl (.cons rfl (.cons rfl (.cons rfl (.nil)))))) ?_
  rintro nn wl1 ls ⟨i, q, v, xs, rfl, hi, ho, hl, E, rfl⟩
  have hs8 := Below.size E
  refine Cq.seq ?_
  refine Cq.seq ?_
  refine Cq.region ?_
  refine Sq.move .plain rfl rfl ?_
  refine Sq.move .plain rfl rfl ?_
  refine Sq.lenStr .plain rfl und9 rfl ?_
  refine Sq.leq .plain rfl rfl rfl ?_
  refine Sq.part (fun c9 => ?_) (fun c9 => ?_)
  · refine Sq.nil ?_
    refine Eq.next ?_
    refine Cq.thn rfl ?_
    refine Cq.skip ?_
    refine Eq.next ?_
    refine Cq.seq ?_
    refine Cq.block ?_
    refine Cq.seq ?_
    refine Cq.region ?_
    refine Sq.move .plain rfl rfl ?_
    refine Sq.move .plain rfl rfl ?_
    refine Sq.lenStr .plain rfl und9 rfl ?_
    refine Sq.eql .plain rfl rfl rfl ?_
    refine Sq.part (fun c10 => ?_) (fun c10 => ?_)
    · refine Sq.move .plain rfl rfl ?_
      refine Sq.off rfl rfl rfl rfl rfl rfl ?_
      refine Sq.off rfl rfl rfl rfl rfl rfl ?_
      refine Sq.off rfl rfl rfl rfl rfl rfl ?_
      refine Sq.off rfl rfl rfl rfl rfl rfl ?_
      refine Sq.off rfl rfl rfl rfl rfl rfl ?_
      refine Sq.pickT .plain rfl rfl rfl ?_
      refine Sq.nil ?_
      refine Eq.next ?_
      refine Cq.thn rfl ?_
      refine Cq.seq ?_
      refine Cq.region ?_
      refine Sq.move .plain rfl rfl ?_
      refine Sq.move .plain rfl rfl ?_
      refine Sq.move .plain rfl rfl ?_
      refine Sq.move .plain rfl rfl ?_
      refine Sq.val .plain rfl rfl (Still.cutLH und9 rfl rfl rfl (by omega)) ?_
      refine Sq.app1 sl91 ho (by omega) (by simp; omega) .plain rfl rfl rfl rfl rfl rfl rfl (fun v11 w12 ho14 g13 _ => ?_)
      have hs15 := g13.size
      replace E := E.owned ho g13 (by omega)
      refine Sq.assign .plain rfl rfl ?_
      refine Sq.nil ?_
      refine Eq.next ?_
      refine Cq.region ?_
      refine Sq.move .plain rfl rfl ?_
      refine Sq.add .plain rfl rfl rfl (by omega) ?_
      refine Sq.assign .plain rfl rfl ?_
      refine Sq.nil ?_
      refine Eq.end ?_
      refine Eq.next ?_
      refine Cq.region ?_
      refine Sq.move .plain rfl rfl ?_
      refine Sq.add .plain rfl rfl rfl (by omega) ?_
      refine Sq.assign .plain rfl rfl ?_
      refine Sq.nil ?_
      refine Eq.round _ _ ⟨i + 1, _, _, _, rfl, by omega, Own.snocS ho14, ⟨by simp; omega, by intro h; simp, all_app hl.2.2 (size_cut s)⟩, E, rfl⟩ (by omega) (.cons rfl (.cons rfl (.cons rfl (.cons rfl (.cons rfl (.nil))))))
    refine Sq.move .plain rfl rfl ?_
    refine Sq.move (.met rfl rfl rfl) rfl rfl ?_
    refine Sq.move (.met rfl rfl rfl) rfl rfl ?_
    refine Sq.idxStr (.met rfl rfl rfl) rfl und9 rfl rfl (by omega) (str_at (by omega)) ?_
    refine Sq.move (.met rfl rfl rfl) rfl rfl ?_
    refine Sq.eql (.met rfl rfl rfl) rfl rfl rfl ?_
    refine Sq.part (fun c17 => ?_) (fun c17 => ?_)
    · refine Sq.pickF .plain rfl rfl rfl ?_
      refine Sq.nil ?_
      refine Eq.next ?_
      refine Cq.thn rfl ?_
      refine Cq.seq ?_
      refine Cq.region ?_
      refine Sq.move .plain rfl rfl ?_
      refine Sq.move .plain rfl rfl ?_
      refine Sq.move .plain rfl rfl ?_
      refine Sq.move .plain rfl rfl ?_
      refine Sq.val .plain rfl rfl (Still.cutLH und9 rfl rfl rfl (by omega)) ?_
      refine Sq.app1 sl91 ho (by omega) (by simp; omega) .plain rfl rfl rfl rfl rfl rfl rfl (fun v18 w19 ho21 g20 _ => ?_)
      have hs22 := g20.size
      replace E := E.owned ho g20 (by omega)
      refine Sq.assign .plain rfl rfl ?_
      refine Sq.nil ?_
      refine Eq.next ?_
      refine Cq.region ?_
      refine Sq.move .plain rfl rfl ?_
      refine Sq.add .plain rfl rfl rfl (by omega) ?_
      refine Sq.assign .plain rfl rfl ?_
      refine Sq.nil ?_
      refine Eq.end ?_
      refine Eq.next ?_
      refine Cq.region ?_
      refine Sq.move .plain rfl rfl ?_
      refine Sq.add .plain rfl rfl rfl (by omega) ?_
      refine Sq.assign .plain rfl rfl ?_
      refine Sq.nil ?_
      refine Eq.round _ _ ⟨i + 1, _, _, _, rfl, by omega, Own.snocS ho21, ⟨by simp; omega, by intro h; simp, all_app hl.2.2 (size_cut s)⟩, E, rfl⟩ (by omega) (.cons rfl (.cons rfl (.cons rfl (.cons rfl (.cons rfl (.nil))))))
    refine Sq.pickF .plain rfl rfl rfl ?_
    refine Sq.nil ?_
    refine Eq.next ?_
    refine Cq.els rfl ?_
    refine Cq.skip ?_
    refine Eq.end ?_
    refine Eq.next ?_
    refine Cq.region ?_
    refine Sq.move .plain rfl rfl ?_
    refine Sq.add .plain rfl rfl rfl (by omega) ?_
    refine Sq.assign .plain rfl rfl ?_
    refine Sq.nil ?_
    refine Eq.round _ _ ⟨i + 1, _, _, _, rfl, by omega, ho, ⟨by omega, by intro h; omega, hl.2.2⟩, E, rfl⟩ (by omega) (.cons rfl (.cons rfl (.cons rfl (.cons rfl (.cons rfl (.nil))))))
  refine Sq.nil ?_
  refine Eq.next ?_
  refine Cq.els rfl ?_
  refine Cq.exit ?_
  refine Eq.past ?_
  refine Eq.past ?_
  refine Eq.hit ?_
  refine Eq.next ?_
  refine Cq.seq ?_
  refine Cq.region ?_
  refine Sq.move .plain rfl rfl ?_
  refine Sq.assign .plain rfl rfl ?_
  refine Sq.nil ?_
  refine Eq.next ?_
  refine Cq.ret ?_
  refine Eq.ret1 rfl rfl ?_
  exact ⟨⟨xs, ho, by omega, hl.2.2⟩, E⟩
set_option maxRecDepth 100000 in
theorem num10_c (s : ByteArray) (hs : s.size ≤ 1000000) (w0 : World) : Ret Try.prog 129 #[Value.string s] w0 (fun v w => (∃ n ok, v = .tuple #[.int .i64 n, .bool ok] ∧ -1000000000000000000 ≤ n ∧ n ≤ 1000000000000000000) ∧ w0 = w) := by
  refine Ret.of (args := [Value.string s]) Try.func129 rfl rfl rfl ?_
  rintro _ rfl
  show Cq _ _ _ _ [(0, Value.string s)] _
  refine Cq.seq ?_
  refine Cq.region ?_
  refine Sq.assign .plain rfl rfl ?_
  refine Sq.assign .plain rfl rfl ?_
  refine Sq.nil ?_
  refine Eq.next ?_
  refine Cq.seq ?_
  refine Cq.region ?_
  refine Sq.move .plain rfl rfl ?_
  refine Sq.lenStr .plain rfl und9 rfl ?_
  refine Sq.gtr .plain rfl rfl rfl ?_
  refine Sq.part (fun c1 => ?_) (fun c1 => ?_)
  · refine Sq.move .plain rfl rfl ?_
    refine Sq.move (.met rfl rfl rfl) rfl rfl ?_
    refine Sq.idxStr (.met rfl rfl rfl) rfl und9 rfl rfl (by omega) (str_at (by omega)) ?_
    refine Sq.eql (.met rfl rfl rfl) rfl rfl rfl ?_
    refine Sq.part (fun c3 => ?_) (fun c3 => ?_)
    · refine Sq.pickT .plain rfl rfl rfl ?_
      refine Sq.assign .plain rfl rfl ?_
      refine Sq.nil ?_
      refine Eq.next ?_
      refine Cq.seq ?_
      refine Cq.seq ?_
      refine Cq.region ?_
      refine Sq.move .plain rfl rfl ?_
      refine Sq.nil ?_
      refine Eq.next ?_
      refine Cq.thn rfl ?_
      refine Cq.region ?_
      refine Sq.move .plain rfl rfl ?_
      refine Sq.val .plain rfl rfl (Still.cutL und9 rfl rfl (by omega)) ?_
      refine Sq.assign .plain rfl rfl ?_
      refine Sq.nil ?_
      refine Eq.next ?_
      refine Cq.seq ?_
      refine Cq.seq ?_
      refine Cq.region ?_
      have hcut : (((s.extract (1 : Int).toNat s.size)).size : Int) = s.size - 1 := by rw [ByteArray.size_extract]; omega
      refine Sq.move .plain rfl rfl ?_
      refine Sq.lenStr .plain rfl und9 rfl ?_
      refine Sq.eql .plain rfl rfl rfl ?_
      refine Sq.part (fun c4 => ?_) (fun c4 => ?_)
      · refine Sq.move .plain rfl rfl ?_
        refine Sq.off rfl rfl rfl rfl rfl rfl ?_
        refine Sq.off rfl rfl rfl rfl rfl rfl ?_
        refine Sq.off rfl rfl rfl rfl rfl rfl ?_
        refine Sq.pickT .plain rfl rfl rfl ?_
        refine Sq.move .plain rfl rfl ?_
        refine Sq.off rfl rfl rfl rfl rfl rfl ?_
        refine Sq.off rfl rfl rfl rfl rfl rfl ?_
        refine Sq.off rfl rfl rfl rfl rfl rfl ?_
        refine Sq.off rfl rfl rfl rfl rfl rfl ?_
        refine Sq.offU rfl rfl rfl rfl rfl rfl ?_
        refine Sq.offU rfl rfl rfl rfl rfl rfl ?_
        refine Sq.offU rfl rfl rfl rfl rfl rfl ?_
        refine Sq.offU rfl rfl rfl rfl rfl rfl ?_
        refine Sq.offU rfl rfl rfl rfl rfl rfl ?_
        refine Sq.offU rfl rfl rfl rfl rfl rfl ?_
        refine Sq.off rfl rfl rfl rfl rfl rfl ?_
        refine Sq.pickT .plain rfl rfl rfl ?_
        refine Sq.nil ?_
        refine Eq.next ?_
        refine Cq.thn rfl ?_
        refine Cq.seq ?_
        refine Cq.region ?_
        refine Sq.assign .plain rfl rfl ?_
        refine Sq.assign .plain rfl rfl ?_
        refine Sq.nil ?_
        refine Eq.next ?_
        refine Cq.ret ?_
        refine Eq.pastRet ?_
        refine Eq.ret2 rfl rfl rfl ?_
        exact ⟨⟨_, _, rfl, by omega⟩, rfl⟩
      refine Sq.move .plain rfl rfl ?_
      refine Sq.move (.met rfl rfl rfl) rfl rfl ?_
      refine Sq.lenStr (.met rfl rfl rfl) rfl und9 rfl ?_
      refine Sq.gtr (.met rfl rfl rfl) rfl rfl rfl ?_
      refine Sq.part (fun c5 => ?_) (fun c5 => ?_)
      · refine Sq.pickF .plain rfl rfl rfl ?_
        refine Sq.move .plain rfl rfl ?_
        refine Sq.off rfl rfl rfl rfl rfl rfl ?_
        refine Sq.off rfl rfl rfl rfl rfl rfl ?_
        refine Sq.off rfl rfl rfl rfl rfl rfl ?_
        refine Sq.off rfl rfl rfl rfl rfl rfl ?_
        refine Sq.offU rfl rfl rfl rfl rfl rfl ?_
        refine Sq.offU rfl rfl rfl rfl rfl rfl ?_
        refine Sq.offU rfl rfl rfl rfl rfl rfl ?_
        refine Sq.offU rfl rfl rfl rfl rfl rfl ?_
        refine Sq.offU rfl rfl rfl rfl rfl rfl ?_
        refine Sq.offU rfl rfl rfl rfl rfl rfl ?_
        refine Sq.off rfl rfl rfl rfl rfl rfl ?_
        refine Sq.pickT .plain rfl rfl rfl ?_
        refine Sq.nil ?_
        refine Eq.next ?_
        refine Cq.thn rfl ?_
        refine Cq.seq ?_
        refine Cq.region ?_
        refine Sq.assign .plain rfl rfl ?_
        refine Sq.assign .plain rfl rfl ?_
        refine Sq.nil ?_
        refine Eq.next ?_
        refine Cq.ret ?_
        refine Eq.pastRet ?_
        refine Eq.ret2 rfl rfl rfl ?_
        exact ⟨⟨_, _, rfl, by omega⟩, rfl⟩
      refine Sq.pickF .plain rfl rfl rfl ?_
      refine Sq.move .plain rfl rfl ?_
      refine Sq.move (.met rfl rfl rfl) rfl rfl ?_
      refine Sq.idxStr (.met rfl rfl rfl) rfl und9 rfl rfl (by omega) (str_at (by omega)) ?_
      refine Sq.eql (.met rfl rfl rfl) rfl rfl rfl ?_
      refine Sq.part (fun c7 => ?_) (fun c7 => ?_)
      · refine Sq.move (.met rfl rfl rfl) rfl rfl ?_
        refine Sq.move (.met rfl rfl rfl) rfl rfl ?_
        refine Sq.lenStr (.met rfl rfl rfl) rfl und9 rfl ?_
        refine Sq.gtr (.met rfl rfl rfl) rfl rfl rfl ?_
        refine Sq.part (fun c8 => ?_) (fun c8 => ?_)
        · refine Sq.move (.met rfl rfl rfl) rfl rfl ?_
          refine Sq.off rfl rfl rfl rfl rfl rfl ?_
          refine Sq.pickT (.met rfl rfl rfl) rfl rfl rfl ?_
          refine Sq.pickT (.met rfl rfl rfl) rfl rfl rfl ?_
          refine Sq.pickF .plain rfl rfl rfl ?_
          refine Sq.nil ?_
          refine Eq.next ?_
          refine Cq.thn rfl ?_
          refine Cq.seq ?_
          refine Cq.region ?_
          refine Sq.assign .plain rfl rfl ?_
          refine Sq.assign .plain rfl rfl ?_
          refine Sq.nil ?_
          refine Eq.next ?_
          refine Cq.ret ?_
          refine Eq.pastRet ?_
          refine Eq.ret2 rfl rfl rfl ?_
          exact ⟨⟨_, _, rfl, by omega⟩, rfl⟩
        refine Sq.move (.met rfl rfl rfl) rfl rfl ?_
        refine Sq.move (.met rfl rfl rfl) rfl rfl ?_
        refine Sq.pickF (.met rfl rfl rfl) rfl rfl rfl ?_
        refine Sq.pickT (.met rfl rfl rfl) rfl rfl rfl ?_
        refine Sq.pickF .plain rfl rfl rfl ?_
        refine Sq.nil ?_
        refine Eq.next ?_
        refine Cq.thn rfl ?_
        refine Cq.seq ?_
        refine Cq.region ?_
        refine Sq.assign .plain rfl rfl ?_
        refine Sq.assign .plain rfl rfl ?_
        refine Sq.nil ?_
        refine Eq.next ?_
        refine Cq.ret ?_
        refine Eq.pastRet ?_
        refine Eq.ret2 rfl rfl rfl ?_
        exact ⟨⟨_, _, rfl, by omega⟩, rfl⟩
      refine Sq.move (.met rfl rfl rfl) rfl rfl ?_
      refine Sq.off rfl rfl rfl rfl rfl rfl ?_
      refine Sq.off rfl rfl rfl rfl rfl rfl ?_
      refine Sq.off rfl rfl rfl rfl rfl rfl ?_
      refine Sq.off rfl rfl rfl rfl rfl rfl ?_
      refine Sq.offU rfl rfl rfl rfl rfl rfl ?_
      refine Sq.off rfl rfl rfl rfl rfl rfl ?_
      refine Sq.pickF (.met rfl rfl rfl) rfl rfl rfl ?_
      refine Sq.pickF .plain rfl rfl rfl ?_
      refine Sq.nil ?_
      refine Eq.next ?_
      refine Cq.els rfl ?_
      refine Cq.skip ?_
      refine Eq.next ?_
      refine Cq.seq ?_
      refine Cq.region ?_
      refine Sq.assign .plain rfl rfl ?_
      refine Sq.nil ?_
      refine Eq.next ?_
      refine Cq.seq ?_
      refine Cq.seq ?_
      refine Cq.region ?_
      refine Sq.assign .plain rfl rfl ?_
      refine Sq.nil ?_
      refine Eq.next ?_
      refine Cq.block ?_
      refine Cq.loop (fun nn w ls => ∃ (k : Int), ∃ (n : Int), ls = [(0, Value.string ((s.extract (1 : Int).toNat s.size))), (4, Value.bool true), (5, Value.int .i64 n), (6, Value.int .i64 k)] ∧ w0 = w ∧ (0 ≤ k ∧ k ≤ ((s.extract (1 : Int).toNat s.size)).size) ∧ (((s.extract (1 : Int).toNat s.size)).size ≤ 17) ∧ (0 ≤ n ∧ n < 10 ^ k.toNat) ∧ nn = ((((s.extract (1 : Int).toNat s.size)).size : Int) - k).toNat) _ _ ⟨0, 0, rfl, rfl, by omega, by omega, by decide, rfl⟩ (.cons rfl (.cons rfl (.cons rfl (.cons rfl (.nil))))) ?_
      rintro n1 w ls ⟨k, n, rfl, rfl, hk, hz, hn, rfl⟩
      have hp := pow_small (k := k.toNat) (by omega)
      refine Cq.seq ?_
      refine Cq.seq ?_
      refine Cq.region ?_
      refine Sq.move .plain rfl rfl ?_
      refine Sq.move .plain rfl rfl ?_
      refine Sq.lenStr .plain rfl und9 rfl ?_
      refine Sq.lss .plain rfl rfl rfl ?_
      refine Sq.part (fun c9 => ?_) (fun c9 => ?_)
      · refine Sq.nil ?_
        refine Eq.next ?_
        refine Cq.thn rfl ?_
        refine Cq.skip ?_
        refine Eq.next ?_
        refine Cq.seq ?_
        refine Cq.block ?_
        refine Cq.seq ?_
        refine Cq.seq ?_
        refine Cq.region ?_
        refine Sq.move .plain rfl rfl ?_
        refine Sq.move .plain rfl rfl ?_
        refine Sq.idxStr .plain rfl und9 rfl rfl (by omega) (str_at (by omega)) ?_
        refine Sq.lss .plain rfl rfl rfl ?_
        refine Sq.part (fun c11 => ?_) (fun c11 => ?_)
        · refine Sq.move .plain rfl rfl ?_
          refine Sq.off rfl rfl rfl rfl rfl rfl ?_
          refine Sq.off rfl rfl rfl rfl rfl rfl ?_
          refine Sq.off rfl rfl rfl rfl rfl rfl ?_
          refine Sq.off rfl rfl rfl rfl rfl rfl ?_
          refine Sq.pickT .plain rfl rfl rfl ?_
          refine Sq.nil ?_
          refine Eq.next ?_
          refine Cq.thn rfl ?_
          refine Cq.seq ?_
          refine Cq.region ?_
          refine Sq.assign .plain rfl rfl ?_
          refine Sq.assign .plain rfl rfl ?_
          refine Sq.nil ?_
          refine Eq.next ?_
          refine Cq.ret ?_
          refine Eq.pastRet ?_
          refine Eq.outRet ?_
          refine Eq.pastRet ?_
          refine Eq.pastRet ?_
          refine Eq.outRet ?_
          refine Eq.pastRet ?_
          refine Eq.ret2 rfl rfl rfl ?_
          exact ⟨⟨_, _, rfl, by omega⟩, rfl⟩
        refine Sq.move .plain rfl rfl ?_
        refine Sq.move (.met rfl rfl rfl) rfl rfl ?_
        refine Sq.move (.met rfl rfl rfl) rfl rfl ?_
        refine Sq.idxStr (.met rfl rfl rfl) rfl und9 rfl rfl (by omega) (str_at (by omega)) ?_
        refine Sq.gtr (.met rfl rfl rfl) rfl rfl rfl ?_
        refine Sq.part (fun c13 => ?_) (fun c13 => ?_)
        · refine Sq.pickF .plain rfl rfl rfl ?_
          refine Sq.nil ?_
          refine Eq.next ?_
          refine Cq.thn rfl ?_
          refine Cq.seq ?_
          refine Cq.region ?_
          refine Sq.assign .plain rfl rfl ?_
          refine Sq.assign .plain rfl rfl ?_
          refine Sq.nil ?_
          refine Eq.next ?_
          refine Cq.ret ?_
          refine Eq.pastRet ?_
          refine Eq.outRet ?_
          refine Eq.pastRet ?_
          refine Eq.pastRet ?_
          refine Eq.outRet ?_
          refine Eq.pastRet ?_
          refine Eq.ret2 rfl rfl rfl ?_
          exact ⟨⟨_, _, rfl, by omega⟩, rfl⟩
        refine Sq.pickF .plain rfl rfl rfl ?_
        refine Sq.nil ?_
        refine Eq.next ?_
        refine Cq.els rfl ?_
        refine Cq.skip ?_
        refine Eq.next ?_
        refine Cq.region ?_
        refine Sq.move .plain rfl rfl ?_
        refine Sq.mul .plain rfl rfl rfl (by omega) ?_
        refine Sq.move .plain rfl rfl ?_
        refine Sq.move .plain rfl rfl ?_
        refine Sq.idxStr .plain rfl und9 rfl rfl (by omega) (str_at (by omega)) ?_
        refine Sq.sub8 .plain rfl rfl rfl (by omega) ?_
        refine Sq.conv conv5_3 .plain rfl rfl (by omega) ?_
        refine Sq.add .plain rfl rfl rfl (by omega) ?_
        refine Sq.assign .plain rfl rfl ?_
        refine Sq.nil ?_
        refine Eq.end ?_
        refine Eq.next ?_
        refine Cq.region ?_
        refine Sq.move .plain rfl rfl ?_
        refine Sq.add .plain rfl rfl rfl (by omega) ?_
        refine Sq.assign .plain rfl rfl ?_
        refine Sq.nil ?_
        have e1 := toNat_succ hk.1
        refine Eq.round _ _ ⟨k + 1, _, rfl, rfl, by omega, hz, by rw [e1]; exact pow_step hn (by omega), rfl⟩ (by omega) (.cons rfl (.cons rfl (.cons rfl (.cons rfl (.nil)))))
      refine Sq.nil ?_
      refine Eq.next ?_
      refine Cq.els rfl ?_
      refine Cq.exit ?_
      refine Eq.past ?_
      refine Eq.past ?_
      refine Eq.hit ?_
      refine Eq.next ?_
      refine Cq.seq ?_
      refine Cq.seq ?_
      refine Cq.region ?_
      refine Sq.move .plain rfl rfl ?_
      refine Sq.nil ?_
      refine Eq.next ?_
      refine Cq.thn rfl ?_
      refine Cq.region ?_
      refine Sq.move .plain rfl rfl ?_
      refine Sq.neg .plain rfl rfl (by omega) ?_
      refine Sq.assign .plain rfl rfl ?_
      refine Sq.nil ?_
      refine Eq.next ?_
      refine Cq.seq ?_
      refine Cq.region ?_
      refine Sq.move .plain rfl rfl ?_
      refine Sq.assign .plain rfl rfl ?_
      refine Sq.assign .plain rfl rfl ?_
      refine Sq.nil ?_
      refine Eq.next ?_
      refine Cq.ret ?_
      refine Eq.ret2 rfl rfl rfl ?_
      exact ⟨⟨_, _, rfl, by omega⟩, rfl⟩
    refine Sq.pickT .plain rfl rfl rfl ?_
    refine Sq.assign .plain rfl rfl ?_
    refine Sq.nil ?_
    refine Eq.next ?_
    refine Cq.seq ?_
    refine Cq.seq ?_
    refine Cq.region ?_
    refine Sq.move .plain rfl rfl ?_
    refine Sq.nil ?_
    refine Eq.next ?_
    refine Cq.els rfl ?_
    refine Cq.skip ?_
    refine Eq.next ?_
    refine Cq.seq ?_
    refine Cq.seq ?_
    refine Cq.region ?_
    refine Sq.move .plain rfl rfl ?_
    refine Sq.lenStr .plain rfl und9 rfl ?_
    refine Sq.eql .plain rfl rfl rfl ?_
    refine Sq.part (fun c15 => ?_) (fun c15 => ?_)
    · refine Sq.move .plain rfl rfl ?_
      refine Sq.off rfl rfl rfl rfl rfl rfl ?_
      refine Sq.off rfl rfl rfl rfl rfl rfl ?_
      refine Sq.off rfl rfl rfl rfl rfl rfl ?_
      refine Sq.pickT .plain rfl rfl rfl ?_
      refine Sq.move .plain rfl rfl ?_
      refine Sq.off rfl rfl rfl rfl rfl rfl ?_
      refine Sq.off rfl rfl rfl rfl rfl rfl ?_
      refine Sq.off rfl rfl rfl rfl rfl rfl ?_
      refine Sq.off rfl rfl rfl rfl rfl rfl ?_
      refine Sq.offU rfl rfl rfl rfl rfl rfl ?_
      refine Sq.offU rfl rfl rfl rfl rfl rfl ?_
      refine Sq.offU rfl rfl rfl rfl rfl rfl ?_
      refine Sq.offU rfl rfl rfl rfl rfl rfl ?_
      refine Sq.offU rfl rfl rfl rfl rfl rfl ?_
      refine Sq.offU rfl rfl rfl rfl rfl rfl ?_
      refine Sq.off rfl rfl rfl rfl rfl rfl ?_
      refine Sq.pickT .plain rfl rfl rfl ?_
      refine Sq.nil ?_
      refine Eq.next ?_
      refine Cq.thn rfl ?_
      refine Cq.seq ?_
      refine Cq.region ?_
      refine Sq.assign .plain rfl rfl ?_
      refine Sq.assign .plain rfl rfl ?_
      refine Sq.nil ?_
      refine Eq.next ?_
      refine Cq.ret ?_
      refine Eq.pastRet ?_
      refine Eq.ret2 rfl rfl rfl ?_
      exact ⟨⟨_, _, rfl, by omega⟩, rfl⟩
    refine Sq.move .plain rfl rfl ?_
    refine Sq.move (.met rfl rfl rfl) rfl rfl ?_
    refine Sq.lenStr (.met rfl rfl rfl) rfl und9 rfl ?_
    refine Sq.gtr (.met rfl rfl rfl) rfl rfl rfl ?_
    refine Sq.part (fun c16 => ?_) (fun c16 => ?_)
    · refine Sq.pickF .plain rfl rfl rfl ?_
      refine Sq.move .plain rfl rfl ?_
      refine Sq.off rfl rfl rfl rfl rfl rfl ?_
      refine Sq.off rfl rfl rfl rfl rfl rfl ?_
      refine Sq.off rfl rfl rfl rfl rfl rfl ?_
      refine Sq.off rfl rfl rfl rfl rfl rfl ?_
      refine Sq.offU rfl rfl rfl rfl rfl rfl ?_
      refine Sq.offU rfl rfl rfl rfl rfl rfl ?_
      refine Sq.offU rfl rfl rfl rfl rfl rfl ?_
      refine Sq.offU rfl rfl rfl rfl rfl rfl ?_
      refine Sq.offU rfl rfl rfl rfl rfl rfl ?_
      refine Sq.offU rfl rfl rfl rfl rfl rfl ?_
      refine Sq.off rfl rfl rfl rfl rfl rfl ?_
      refine Sq.pickT .plain rfl rfl rfl ?_
      refine Sq.nil ?_
      refine Eq.next ?_
      refine Cq.thn rfl ?_
      refine Cq.seq ?_
      refine Cq.region ?_
      refine Sq.assign .plain rfl rfl ?_
      refine Sq.assign .plain rfl rfl ?_
      refine Sq.nil ?_
      refine Eq.next ?_
      refine Cq.ret ?_
      refine Eq.pastRet ?_
      refine Eq.ret2 rfl rfl rfl ?_
      exact ⟨⟨_, _, rfl, by omega⟩, rfl⟩
    refine Sq.pickF .plain rfl rfl rfl ?_
    refine Sq.move .plain rfl rfl ?_
    refine Sq.move (.met rfl rfl rfl) rfl rfl ?_
    refine Sq.idxStr (.met rfl rfl rfl) rfl und9 rfl rfl (by omega) (str_at (by omega)) ?_
    refine Sq.eql (.met rfl rfl rfl) rfl rfl rfl ?_
    refine Sq.part (fun c18 => ?_) (fun c18 => ?_)
    · refine Sq.move (.met rfl rfl rfl) rfl rfl ?_
      refine Sq.move (.met rfl rfl rfl) rfl rfl ?_
      refine Sq.lenStr (.met rfl rfl rfl) rfl und9 rfl ?_
      refine Sq.gtr (.met rfl rfl rfl) rfl rfl rfl ?_
      refine Sq.part (fun c19 => ?_) (fun c19 => ?_)
      · refine Sq.move (.met rfl rfl rfl) rfl rfl ?_
        refine Sq.off rfl rfl rfl rfl rfl rfl ?_
        refine Sq.pickT (.met rfl rfl rfl) rfl rfl rfl ?_
        refine Sq.pickT (.met rfl rfl rfl) rfl rfl rfl ?_
        refine Sq.pickF .plain rfl rfl rfl ?_
        refine Sq.nil ?_
        refine Eq.next ?_
        refine Cq.thn rfl ?_
        refine Cq.seq ?_
        refine Cq.region ?_
        refine Sq.assign .plain rfl rfl ?_
        refine Sq.assign .plain rfl rfl ?_
        refine Sq.nil ?_
        refine Eq.next ?_
        refine Cq.ret ?_
        refine Eq.pastRet ?_
        refine Eq.ret2 rfl rfl rfl ?_
        exact ⟨⟨_, _, rfl, by omega⟩, rfl⟩
      refine Sq.move (.met rfl rfl rfl) rfl rfl ?_
      refine Sq.move (.met rfl rfl rfl) rfl rfl ?_
      refine Sq.pickF (.met rfl rfl rfl) rfl rfl rfl ?_
      refine Sq.pickT (.met rfl rfl rfl) rfl rfl rfl ?_
      refine Sq.pickF .plain rfl rfl rfl ?_
      refine Sq.nil ?_
      refine Eq.next ?_
      refine Cq.els rfl ?_
      refine Cq.skip ?_
      refine Eq.next ?_
      refine Cq.seq ?_
      refine Cq.region ?_
      refine Sq.assign .plain rfl rfl ?_
      refine Sq.nil ?_
      refine Eq.next ?_
      refine Cq.seq ?_
      refine Cq.seq ?_
      refine Cq.region ?_
      refine Sq.assign .plain rfl rfl ?_
      refine Sq.nil ?_
      refine Eq.next ?_
      refine Cq.block ?_
      refine Cq.loop (fun nn w ls => ∃ (k : Int), ∃ (n : Int), ls = [(0, Value.string s), (4, Value.bool false), (5, Value.int .i64 n), (6, Value.int .i64 k)] ∧ w0 = w ∧ (0 ≤ k ∧ k ≤ (s).size) ∧ ((s).size ≤ 17) ∧ (0 ≤ n ∧ n < 10 ^ k.toNat) ∧ nn = (((s).size : Int) - k).toNat) _ _ ⟨0, 0, rfl, rfl, by omega, by omega, by decide, rfl⟩ (.cons rfl (.cons rfl (.cons rfl (.cons rfl (.nil))))) ?_
      rintro n1 w ls ⟨k, n, rfl, rfl, hk, hz, hn, rfl⟩
      have hp := pow_small (k := k.toNat) (by omega)
      refine Cq.seq ?_
      refine Cq.seq ?_
      refine Cq.region ?_
      refine Sq.move .plain rfl rfl ?_
      refine Sq.move .plain rfl rfl ?_
      refine Sq.lenStr .plain rfl und9 rfl ?_
      refine Sq.lss .plain rfl rfl rfl ?_
      refine Sq.part (fun c20 => ?_) (fun c20 => ?_)
      · refine Sq.nil ?_
        refine Eq.next ?_
        refine Cq.thn rfl ?_
        refine Cq.skip ?_
        refine Eq.next ?_
        refine Cq.seq ?_
        refine Cq.block ?_
        refine Cq.seq ?_
        refine Cq.seq ?_
        refine Cq.region ?_
        refine Sq.move .plain rfl rfl ?_
        refine Sq.move .plain rfl rfl ?_
        refine Sq.idxStr .plain rfl und9 rfl rfl (by omega) (str_at (by omega)) ?_
        refine Sq.lss .plain rfl rfl rfl ?_
        refine Sq.part (fun c22 => ?_) (fun c22 => ?_)
        · refine Sq.move .plain rfl rfl ?_
          refine Sq.off rfl rfl rfl rfl rfl rfl ?_
          refine Sq.off rfl rfl rfl rfl rfl rfl ?_
          refine Sq.off rfl rfl rfl rfl rfl rfl ?_
          refine Sq.off rfl rfl rfl rfl rfl rfl ?_
          refine Sq.pickT .plain rfl rfl rfl ?_
          refine Sq.nil ?_
          refine Eq.next ?_
          refine Cq.thn rfl ?_
          refine Cq.seq ?_
          refine Cq.region ?_
          refine Sq.assign .plain rfl rfl ?_
          refine Sq.assign .plain rfl rfl ?_
          refine Sq.nil ?_
          refine Eq.next ?_
          refine Cq.ret ?_
          refine Eq.pastRet ?_
          refine Eq.outRet ?_
          refine Eq.pastRet ?_
          refine Eq.pastRet ?_
          refine Eq.outRet ?_
          refine Eq.pastRet ?_
          refine Eq.ret2 rfl rfl rfl ?_
          exact ⟨⟨_, _, rfl, by omega⟩, rfl⟩
        refine Sq.move .plain rfl rfl ?_
        refine Sq.move (.met rfl rfl rfl) rfl rfl ?_
        refine Sq.move (.met rfl rfl rfl) rfl rfl ?_
        refine Sq.idxStr (.met rfl rfl rfl) rfl und9 rfl rfl (by omega) (str_at (by omega)) ?_
        refine Sq.gtr (.met rfl rfl rfl) rfl rfl rfl ?_
        refine Sq.part (fun c24 => ?_) (fun c24 => ?_)
        · refine Sq.pickF .plain rfl rfl rfl ?_
          refine Sq.nil ?_
          refine Eq.next ?_
          refine Cq.thn rfl ?_
          refine Cq.seq ?_
          refine Cq.region ?_
          refine Sq.assign .plain rfl rfl ?_
          refine Sq.assign .plain rfl rfl ?_
          refine Sq.nil ?_
          refine Eq.next ?_
          refine Cq.ret ?_
          refine Eq.pastRet ?_
          refine Eq.outRet ?_
          refine Eq.pastRet ?_
          refine Eq.pastRet ?_
          refine Eq.outRet ?_
          refine Eq.pastRet ?_
          refine Eq.ret2 rfl rfl rfl ?_
          exact ⟨⟨_, _, rfl, by omega⟩, rfl⟩
        refine Sq.pickF .plain rfl rfl rfl ?_
        refine Sq.nil ?_
        refine Eq.next ?_
        refine Cq.els rfl ?_
        refine Cq.skip ?_
        refine Eq.next ?_
        refine Cq.region ?_
        refine Sq.move .plain rfl rfl ?_
        refine Sq.mul .plain rfl rfl rfl (by omega) ?_
        refine Sq.move .plain rfl rfl ?_
        refine Sq.move .plain rfl rfl ?_
        refine Sq.idxStr .plain rfl und9 rfl rfl (by omega) (str_at (by omega)) ?_
        refine Sq.sub8 .plain rfl rfl rfl (by omega) ?_
        refine Sq.conv conv5_3 .plain rfl rfl (by omega) ?_
        refine Sq.add .plain rfl rfl rfl (by omega) ?_
        refine Sq.assign .plain rfl rfl ?_
        refine Sq.nil ?_
        refine Eq.end ?_
        refine Eq.next ?_
        refine Cq.region ?_
        refine Sq.move .plain rfl rfl ?_
        refine Sq.add .plain rfl rfl rfl (by omega) ?_
        refine Sq.assign .plain rfl rfl ?_
        refine Sq.nil ?_
        have e1 := toNat_succ hk.1
        refine Eq.round _ _ ⟨k + 1, _, rfl, rfl, by omega, hz, by rw [e1]; exact pow_step hn (by omega), rfl⟩ (by omega) (.cons rfl (.cons rfl (.cons rfl (.cons rfl (.nil)))))
      refine Sq.nil ?_
      refine Eq.next ?_
      refine Cq.els rfl ?_
      refine Cq.exit ?_
      refine Eq.past ?_
      refine Eq.past ?_
      refine Eq.hit ?_
      refine Eq.next ?_
      refine Cq.seq ?_
      refine Cq.seq ?_
      refine Cq.region ?_
      refine Sq.move .plain rfl rfl ?_
      refine Sq.nil ?_
      refine Eq.next ?_
      refine Cq.els rfl ?_
      refine Cq.skip ?_
      refine Eq.next ?_
      refine Cq.seq ?_
      refine Cq.region ?_
      refine Sq.move .plain rfl rfl ?_
      refine Sq.assign .plain rfl rfl ?_
      refine Sq.assign .plain rfl rfl ?_
      refine Sq.nil ?_
      refine Eq.next ?_
      refine Cq.ret ?_
      refine Eq.ret2 rfl rfl rfl ?_
      exact ⟨⟨_, _, rfl, by omega⟩, rfl⟩
    refine Sq.move (.met rfl rfl rfl) rfl rfl ?_
    refine Sq.off rfl rfl rfl rfl rfl rfl ?_
    refine Sq.off rfl rfl rfl rfl rfl rfl ?_
    refine Sq.off rfl rfl rfl rfl rfl rfl ?_
    refine Sq.off rfl rfl rfl rfl rfl rfl ?_
    refine Sq.offU rfl rfl rfl rfl rfl rfl ?_
    refine Sq.off rfl rfl rfl rfl rfl rfl ?_
    refine Sq.pickF (.met rfl rfl rfl) rfl rfl rfl ?_
    refine Sq.pickF .plain rfl rfl rfl ?_
    refine Sq.nil ?_
    refine Eq.next ?_
    refine Cq.els rfl ?_
    refine Cq.skip ?_
    refine Eq.next ?_
    refine Cq.seq ?_
    refine Cq.region ?_
    refine Sq.assign .plain rfl rfl ?_
    refine Sq.nil ?_
    refine Eq.next ?_
    refine Cq.seq ?_
    refine Cq.seq ?_
    refine Cq.region ?_
    refine Sq.assign .plain rfl rfl ?_
    refine Sq.nil ?_
    refine Eq.next ?_
    refine Cq.block ?_
    refine Cq.loop (fun nn w ls => ∃ (k : Int), ∃ (n : Int), ls = [(0, Value.string s), (4, Value.bool false), (5, Value.int .i64 n), (6, Value.int .i64 k)] ∧ w0 = w ∧ (0 ≤ k ∧ k ≤ (s).size) ∧ ((s).size ≤ 17) ∧ (0 ≤ n ∧ n < 10 ^ k.toNat) ∧ nn = (((s).size : Int) - k).toNat) _ _ ⟨0, 0, rfl, rfl, by omega, by omega, by decide, rfl⟩ (.cons rfl (.cons rfl (.cons rfl (.cons rfl (.nil))))) ?_
    rintro n1 w ls ⟨k, n, rfl, rfl, hk, hz, hn, rfl⟩
    have hp := pow_small (k := k.toNat) (by omega)
    refine Cq.seq ?_
    refine Cq.seq ?_
    refine Cq.region ?_
    refine Sq.move .plain rfl rfl ?_
    refine Sq.move .plain rfl rfl ?_
    refine Sq.lenStr .plain rfl und9 rfl ?_
    refine Sq.lss .plain rfl rfl rfl ?_
    refine Sq.part (fun c26 => ?_) (fun c26 => ?_)
    · refine Sq.nil ?_
      refine Eq.next ?_
      refine Cq.thn rfl ?_
      refine Cq.skip ?_
      refine Eq.next ?_
      refine Cq.seq ?_
      refine Cq.block ?_
      refine Cq.seq ?_
      refine Cq.seq ?_
      refine Cq.region ?_
      refine Sq.move .plain rfl rfl ?_
      refine Sq.move .plain rfl rfl ?_
      refine Sq.idxStr .plain rfl und9 rfl rfl (by omega) (str_at (by omega)) ?_
      refine Sq.lss .plain rfl rfl rfl ?_
      refine Sq.part (fun c28 => ?_) (fun c28 => ?_)
      · refine Sq.move .plain rfl rfl ?_
        refine Sq.off rfl rfl rfl rfl rfl rfl ?_
        refine Sq.off rfl rfl rfl rfl rfl rfl ?_
        refine Sq.off rfl rfl rfl rfl rfl rfl ?_
        refine Sq.off rfl rfl rfl rfl rfl rfl ?_
        refine Sq.pickT .plain rfl rfl rfl ?_
        refine Sq.nil ?_
        refine Eq.next ?_
        refine Cq.thn rfl ?_
        refine Cq.seq ?_
        refine Cq.region ?_
        refine Sq.assign .plain rfl rfl ?_
        refine Sq.assign .plain rfl rfl ?_
        refine Sq.nil ?_
        refine Eq.next ?_
        refine Cq.ret ?_
        refine Eq.pastRet ?_
        refine Eq.outRet ?_
        refine Eq.pastRet ?_
        refine Eq.pastRet ?_
        refine Eq.outRet ?_
        refine Eq.pastRet ?_
        refine Eq.ret2 rfl rfl rfl ?_
        exact ⟨⟨_, _, rfl, by omega⟩, rfl⟩
      refine Sq.move .plain rfl rfl ?_
      refine Sq.move (.met rfl rfl rfl) rfl rfl ?_
      refine Sq.move (.met rfl rfl rfl) rfl rfl ?_
      refine Sq.idxStr (.met rfl rfl rfl) rfl und9 rfl rfl (by omega) (str_at (by omega)) ?_
      refine Sq.gtr (.met rfl rfl rfl) rfl rfl rfl ?_
      refine Sq.part (fun c30 => ?_) (fun c30 => ?_)
      · refine Sq.pickF .plain rfl rfl rfl ?_
        refine Sq.nil ?_
        refine Eq.next ?_
        refine Cq.thn rfl ?_
        refine Cq.seq ?_
        refine Cq.region ?_
        refine Sq.assign .plain rfl rfl ?_
        refine Sq.assign .plain rfl rfl ?_
        refine Sq.nil ?_
        refine Eq.next ?_
        refine Cq.ret ?_
        refine Eq.pastRet ?_
        refine Eq.outRet ?_
        refine Eq.pastRet ?_
        refine Eq.pastRet ?_
        refine Eq.outRet ?_
        refine Eq.pastRet ?_
        refine Eq.ret2 rfl rfl rfl ?_
        exact ⟨⟨_, _, rfl, by omega⟩, rfl⟩
      refine Sq.pickF .plain rfl rfl rfl ?_
      refine Sq.nil ?_
      refine Eq.next ?_
      refine Cq.els rfl ?_
      refine Cq.skip ?_
      refine Eq.next ?_
      refine Cq.region ?_
      refine Sq.move .plain rfl rfl ?_
      refine Sq.mul .plain rfl rfl rfl (by omega) ?_
      refine Sq.move .plain rfl rfl ?_
      refine Sq.move .plain rfl rfl ?_
      refine Sq.idxStr .plain rfl und9 rfl rfl (by omega) (str_at (by omega)) ?_
      refine Sq.sub8 .plain rfl rfl rfl (by omega) ?_
      refine Sq.conv conv5_3 .plain rfl rfl (by omega) ?_
      refine Sq.add .plain rfl rfl rfl (by omega) ?_
      refine Sq.assign .plain rfl rfl ?_
      refine Sq.nil ?_
      refine Eq.end ?_
      refine Eq.next ?_
      refine Cq.region ?_
      refine Sq.move .plain rfl rfl ?_
      refine Sq.add .plain rfl rfl rfl (by omega) ?_
      refine Sq.assign .plain rfl rfl ?_
      refine Sq.nil ?_
      have e1 := toNat_succ hk.1
      refine Eq.round _ _ ⟨k + 1, _, rfl, rfl, by omega, hz, by rw [e1]; exact pow_step hn (by omega), rfl⟩ (by omega) (.cons rfl (.cons rfl (.cons rfl (.cons rfl (.nil)))))
    refine Sq.nil ?_
    refine Eq.next ?_
    refine Cq.els rfl ?_
    refine Cq.exit ?_
    refine Eq.past ?_
    refine Eq.past ?_
    refine Eq.hit ?_
    refine Eq.next ?_
    refine Cq.seq ?_
    refine Cq.seq ?_
    refine Cq.region ?_
    refine Sq.move .plain rfl rfl ?_
    refine Sq.nil ?_
    refine Eq.next ?_
    refine Cq.els rfl ?_
    refine Cq.skip ?_
    refine Eq.next ?_
    refine Cq.seq ?_
    refine Cq.region ?_
    refine Sq.move .plain rfl rfl ?_
    refine Sq.assign .plain rfl rfl ?_
    refine Sq.assign .plain rfl rfl ?_
    refine Sq.nil ?_
    refine Eq.next ?_
    refine Cq.ret ?_
    refine Eq.ret2 rfl rfl rfl ?_
    exact ⟨⟨_, _, rfl, by omega⟩, rfl⟩
  refine Sq.move .plain rfl rfl ?_
  refine Sq.off rfl rfl rfl rfl rfl rfl ?_
  refine Sq.off rfl rfl rfl rfl rfl rfl ?_
  refine Sq.off rfl rfl rfl rfl rfl rfl ?_
  refine Sq.pickF .plain rfl rfl rfl ?_
  refine Sq.assign .plain rfl rfl ?_
  refine Sq.nil ?_
  refine Eq.next ?_
  refine Cq.seq ?_
  refine Cq.seq ?_
  refine Cq.region ?_
  refine Sq.move .plain rfl rfl ?_
  refine Sq.nil ?_
  refine Eq.next ?_
  refine Cq.els rfl ?_
  refine Cq.skip ?_
  refine Eq.next ?_
  refine Cq.seq ?_
  refine Cq.seq ?_
  refine Cq.region ?_
  refine Sq.move .plain rfl rfl ?_
  refine Sq.lenStr .plain rfl und9 rfl ?_
  refine Sq.eql .plain rfl rfl rfl ?_
  refine Sq.part (fun c32 => ?_) (fun c32 => ?_)
  · refine Sq.move .plain rfl rfl ?_
    refine Sq.off rfl rfl rfl rfl rfl rfl ?_
    refine Sq.off rfl rfl rfl rfl rfl rfl ?_
    refine Sq.off rfl rfl rfl rfl rfl rfl ?_
    refine Sq.pickT .plain rfl rfl rfl ?_
    refine Sq.move .plain rfl rfl ?_
    refine Sq.off rfl rfl rfl rfl rfl rfl ?_
    refine Sq.off rfl rfl rfl rfl rfl rfl ?_
    refine Sq.off rfl rfl rfl rfl rfl rfl ?_
    refine Sq.off rfl rfl rfl rfl rfl rfl ?_
    refine Sq.offU rfl rfl rfl rfl rfl rfl ?_
    refine Sq.offU rfl rfl rfl rfl rfl rfl ?_
    refine Sq.offU rfl rfl rfl rfl rfl rfl ?_
    refine Sq.offU rfl rfl rfl rfl rfl rfl ?_
    refine Sq.offU rfl rfl rfl rfl rfl rfl ?_
    refine Sq.offU rfl rfl rfl rfl rfl rfl ?_
    refine Sq.off rfl rfl rfl rfl rfl rfl ?_
    refine Sq.pickT .plain rfl rfl rfl ?_
    refine Sq.nil ?_
    refine Eq.next ?_
    refine Cq.thn rfl ?_
    refine Cq.seq ?_
    refine Cq.region ?_
    refine Sq.assign .plain rfl rfl ?_
    refine Sq.assign .plain rfl rfl ?_
    refine Sq.nil ?_
    refine Eq.next ?_
    refine Cq.ret ?_
    refine Eq.pastRet ?_
    refine Eq.ret2 rfl rfl rfl ?_
    exact ⟨⟨_, _, rfl, by omega⟩, rfl⟩
  refine Sq.move .plain rfl rfl ?_
  refine Sq.move (.met rfl rfl rfl) rfl rfl ?_
  refine Sq.lenStr (.met rfl rfl rfl) rfl und9 rfl ?_
  refine Sq.gtr (.met rfl rfl rfl) rfl rfl rfl ?_
  refine Sq.part (fun c33 => ?_) (fun c33 => ?_)
  · refine Sq.pickF .plain rfl rfl rfl ?_
    refine Sq.move .plain rfl rfl ?_
    refine Sq.off rfl rfl rfl rfl rfl rfl ?_
    refine Sq.off rfl rfl rfl rfl rfl rfl ?_
    refine Sq.off rfl rfl rfl rfl rfl rfl ?_
    refine Sq.off rfl rfl rfl rfl rfl rfl ?_
    refine Sq.offU rfl rfl rfl rfl rfl rfl ?_
    refine Sq.offU rfl rfl rfl rfl rfl rfl ?_
    refine Sq.offU rfl rfl rfl rfl rfl rfl ?_
    refine Sq.offU rfl rfl rfl rfl rfl rfl ?_
    refine Sq.offU rfl rfl rfl rfl rfl rfl ?_
    refine Sq.offU rfl rfl rfl rfl rfl rfl ?_
    refine Sq.off rfl rfl rfl rfl rfl rfl ?_
    refine Sq.pickT .plain rfl rfl rfl ?_
    refine Sq.nil ?_
    refine Eq.next ?_
    refine Cq.thn rfl ?_
    refine Cq.seq ?_
    refine Cq.region ?_
    refine Sq.assign .plain rfl rfl ?_
    refine Sq.assign .plain rfl rfl ?_
    refine Sq.nil ?_
    refine Eq.next ?_
    refine Cq.ret ?_
    refine Eq.pastRet ?_
    refine Eq.ret2 rfl rfl rfl ?_
    exact ⟨⟨_, _, rfl, by omega⟩, rfl⟩
  refine Sq.pickF .plain rfl rfl rfl ?_
  refine Sq.move .plain rfl rfl ?_
  refine Sq.move (.met rfl rfl rfl) rfl rfl ?_
  refine Sq.idxStr (.met rfl rfl rfl) rfl und9 rfl rfl (by omega) (str_at (by omega)) ?_
  refine Sq.eql (.met rfl rfl rfl) rfl rfl rfl ?_
  refine Sq.part (fun c35 => ?_) (fun c35 => ?_)
  · refine Sq.move (.met rfl rfl rfl) rfl rfl ?_
    refine Sq.move (.met rfl rfl rfl) rfl rfl ?_
    refine Sq.lenStr (.met rfl rfl rfl) rfl und9 rfl ?_
    refine Sq.gtr (.met rfl rfl rfl) rfl rfl rfl ?_
    refine Sq.part (fun c36 => ?_) (fun c36 => ?_)
    · refine Sq.move (.met rfl rfl rfl) rfl rfl ?_
      refine Sq.off rfl rfl rfl rfl rfl rfl ?_
      refine Sq.pickT (.met rfl rfl rfl) rfl rfl rfl ?_
      refine Sq.pickT (.met rfl rfl rfl) rfl rfl rfl ?_
      refine Sq.pickF .plain rfl rfl rfl ?_
      refine Sq.nil ?_
      refine Eq.next ?_
      refine Cq.thn rfl ?_
      refine Cq.seq ?_
      refine Cq.region ?_
      refine Sq.assign .plain rfl rfl ?_
      refine Sq.assign .plain rfl rfl ?_
      refine Sq.nil ?_
      refine Eq.next ?_
      refine Cq.ret ?_
      refine Eq.pastRet ?_
      refine Eq.ret2 rfl rfl rfl ?_
      exact ⟨⟨_, _, rfl, by omega⟩, rfl⟩
    refine Sq.move (.met rfl rfl rfl) rfl rfl ?_
    refine Sq.move (.met rfl rfl rfl) rfl rfl ?_
    refine Sq.pickF (.met rfl rfl rfl) rfl rfl rfl ?_
    refine Sq.pickT (.met rfl rfl rfl) rfl rfl rfl ?_
    refine Sq.pickF .plain rfl rfl rfl ?_
    refine Sq.nil ?_
    refine Eq.next ?_
    refine Cq.els rfl ?_
    refine Cq.skip ?_
    refine Eq.next ?_
    refine Cq.seq ?_
    refine Cq.region ?_
    refine Sq.assign .plain rfl rfl ?_
    refine Sq.nil ?_
    refine Eq.next ?_
    refine Cq.seq ?_
    refine Cq.seq ?_
    refine Cq.region ?_
    refine Sq.assign .plain rfl rfl ?_
    refine Sq.nil ?_
    refine Eq.next ?_
    refine Cq.block ?_
    refine Cq.loop (fun nn w ls => ∃ (k : Int), ∃ (n : Int), ls = [(0, Value.string s), (4, Value.bool false), (5, Value.int .i64 n), (6, Value.int .i64 k)] ∧ w0 = w ∧ (0 ≤ k ∧ k ≤ (s).size) ∧ ((s).size ≤ 17) ∧ (0 ≤ n ∧ n < 10 ^ k.toNat) ∧ nn = (((s).size : Int) - k).toNat) _ _ ⟨0, 0, rfl, rfl, by omega, by omega, by decide, rfl⟩ (.cons rfl (.cons rfl (.cons rfl (.cons rfl (.nil))))) ?_
    rintro n1 w ls ⟨k, n, rfl, rfl, hk, hz, hn, rfl⟩
    have hp := pow_small (k := k.toNat) (by omega)
    refine Cq.seq ?_
    refine Cq.seq ?_
    refine Cq.region ?_
    refine Sq.move .plain rfl rfl ?_
    refine Sq.move .plain rfl rfl ?_
    refine Sq.lenStr .plain rfl und9 rfl ?_
    refine Sq.lss .plain rfl rfl rfl ?_
    refine Sq.part (fun c37 => ?_) (fun c37 => ?_)
    · refine Sq.nil ?_
      refine Eq.next ?_
      refine Cq.thn rfl ?_
      refine Cq.skip ?_
      refine Eq.next ?_
      refine Cq.seq ?_
      refine Cq.block ?_
      refine Cq.seq ?_
      refine Cq.seq ?_
      refine Cq.region ?_
      refine Sq.move .plain rfl rfl ?_
      refine Sq.move .plain rfl rfl ?_
      refine Sq.idxStr .plain rfl und9 rfl rfl (by omega) (str_at (by omega)) ?_
      refine Sq.lss .plain rfl rfl rfl ?_
      refine Sq.part (fun c39 => ?_) (fun c39 => ?_)
      · refine Sq.move .plain rfl rfl ?_
        refine Sq.off rfl rfl rfl rfl rfl rfl ?_
        refine Sq.off rfl rfl rfl rfl rfl rfl ?_
        refine Sq.off rfl rfl rfl rfl rfl rfl ?_
        refine Sq.off rfl rfl rfl rfl rfl rfl ?_
        refine Sq.pickT .plain rfl rfl rfl ?_
        refine Sq.nil ?_
        refine Eq.next ?_
        refine Cq.thn rfl ?_
        refine Cq.seq ?_
        refine Cq.region ?_
        refine Sq.assign .plain rfl rfl ?_
        refine Sq.assign .plain rfl rfl ?_
        refine Sq.nil ?_
        refine Eq.next ?_
        refine Cq.ret ?_
        refine Eq.pastRet ?_
        refine Eq.outRet ?_
        refine Eq.pastRet ?_
        refine Eq.pastRet ?_
        refine Eq.outRet ?_
        refine Eq.pastRet ?_
        refine Eq.ret2 rfl rfl rfl ?_
        exact ⟨⟨_, _, rfl, by omega⟩, rfl⟩
      refine Sq.move .plain rfl rfl ?_
      refine Sq.move (.met rfl rfl rfl) rfl rfl ?_
      refine Sq.move (.met rfl rfl rfl) rfl rfl ?_
      refine Sq.idxStr (.met rfl rfl rfl) rfl und9 rfl rfl (by omega) (str_at (by omega)) ?_
      refine Sq.gtr (.met rfl rfl rfl) rfl rfl rfl ?_
      refine Sq.part (fun c41 => ?_) (fun c41 => ?_)
      · refine Sq.pickF .plain rfl rfl rfl ?_
        refine Sq.nil ?_
        refine Eq.next ?_
        refine Cq.thn rfl ?_
        refine Cq.seq ?_
        refine Cq.region ?_
        refine Sq.assign .plain rfl rfl ?_
        refine Sq.assign .plain rfl rfl ?_
        refine Sq.nil ?_
        refine Eq.next ?_
        refine Cq.ret ?_
        refine Eq.pastRet ?_
        refine Eq.outRet ?_
        refine Eq.pastRet ?_
        refine Eq.pastRet ?_
        refine Eq.outRet ?_
        refine Eq.pastRet ?_
        refine Eq.ret2 rfl rfl rfl ?_
        exact ⟨⟨_, _, rfl, by omega⟩, rfl⟩
      refine Sq.pickF .plain rfl rfl rfl ?_
      refine Sq.nil ?_
      refine Eq.next ?_
      refine Cq.els rfl ?_
      refine Cq.skip ?_
      refine Eq.next ?_
      refine Cq.region ?_
      refine Sq.move .plain rfl rfl ?_
      refine Sq.mul .plain rfl rfl rfl (by omega) ?_
      refine Sq.move .plain rfl rfl ?_
      refine Sq.move .plain rfl rfl ?_
      refine Sq.idxStr .plain rfl und9 rfl rfl (by omega) (str_at (by omega)) ?_
      refine Sq.sub8 .plain rfl rfl rfl (by omega) ?_
      refine Sq.conv conv5_3 .plain rfl rfl (by omega) ?_
      refine Sq.add .plain rfl rfl rfl (by omega) ?_
      refine Sq.assign .plain rfl rfl ?_
      refine Sq.nil ?_
      refine Eq.end ?_
      refine Eq.next ?_
      refine Cq.region ?_
      refine Sq.move .plain rfl rfl ?_
      refine Sq.add .plain rfl rfl rfl (by omega) ?_
      refine Sq.assign .plain rfl rfl ?_
      refine Sq.nil ?_
      have e1 := toNat_succ hk.1
      refine Eq.round _ _ ⟨k + 1, _, rfl, rfl, by omega, hz, by rw [e1]; exact pow_step hn (by omega), rfl⟩ (by omega) (.cons rfl (.cons rfl (.cons rfl (.cons rfl (.nil)))))
    refine Sq.nil ?_
    refine Eq.next ?_
    refine Cq.els rfl ?_
    refine Cq.exit ?_
    refine Eq.past ?_
    refine Eq.past ?_
    refine Eq.hit ?_
    refine Eq.next ?_
    refine Cq.seq ?_
    refine Cq.seq ?_
    refine Cq.region ?_
    refine Sq.move .plain rfl rfl ?_
    refine Sq.nil ?_
    refine Eq.next ?_
    refine Cq.els rfl ?_
    refine Cq.skip ?_
    refine Eq.next ?_
    refine Cq.seq ?_
    refine Cq.region ?_
    refine Sq.move .plain rfl rfl ?_
    refine Sq.assign .plain rfl rfl ?_
    refine Sq.assign .plain rfl rfl ?_
    refine Sq.nil ?_
    refine Eq.next ?_
    refine Cq.ret ?_
    refine Eq.ret2 rfl rfl rfl ?_
    exact ⟨⟨_, _, rfl, by omega⟩, rfl⟩
  refine Sq.move (.met rfl rfl rfl) rfl rfl ?_
  refine Sq.off rfl rfl rfl rfl rfl rfl ?_
  refine Sq.off rfl rfl rfl rfl rfl rfl ?_
  refine Sq.off rfl rfl rfl rfl rfl rfl ?_
  refine Sq.off rfl rfl rfl rfl rfl rfl ?_
  refine Sq.offU rfl rfl rfl rfl rfl rfl ?_
  refine Sq.off rfl rfl rfl rfl rfl rfl ?_
  refine Sq.pickF (.met rfl rfl rfl) rfl rfl rfl ?_
  refine Sq.pickF .plain rfl rfl rfl ?_
  refine Sq.nil ?_
  refine Eq.next ?_
  refine Cq.els rfl ?_
  refine Cq.skip ?_
  refine Eq.next ?_
  refine Cq.seq ?_
  refine Cq.region ?_
  refine Sq.assign .plain rfl rfl ?_
  refine Sq.nil ?_
  refine Eq.next ?_
  refine Cq.seq ?_
  refine Cq.seq ?_
  refine Cq.region ?_
  refine Sq.assign .plain rfl rfl ?_
  refine Sq.nil ?_
  refine Eq.next ?_
  refine Cq.block ?_
  refine Cq.loop (fun nn w ls => ∃ (k : Int), ∃ (n : Int), ls = [(0, Value.string s), (4, Value.bool false), (5, Value.int .i64 n), (6, Value.int .i64 k)] ∧ w0 = w ∧ (0 ≤ k ∧ k ≤ (s).size) ∧ ((s).size ≤ 17) ∧ (0 ≤ n ∧ n < 10 ^ k.toNat) ∧ nn = (((s).size : Int) - k).toNat) _ _ ⟨0, 0, rfl, rfl, by omega, by omega, by decide, rfl⟩ (.cons rfl (.cons rfl (.cons rfl (.cons rfl (.nil))))) ?_
  rintro n1 w ls ⟨k, n, rfl, rfl, hk, hz, hn, rfl⟩
  have hp := pow_small (k := k.toNat) (by omega)
  refine Cq.seq ?_
  refine Cq.seq ?_
  refine Cq.region ?_
  refine Sq.move .plain rfl rfl ?_
  refine Sq.move .plain rfl rfl ?_
  refine Sq.lenStr .plain rfl und9 rfl ?_
  refine Sq.lss .plain rfl rfl rfl ?_
  refine Sq.part (fun c43 => ?_) (fun c43 => ?_)
  · refine Sq.nil ?_
    refine Eq.next ?_
    refine Cq.thn rfl ?_
    refine Cq.skip ?_
    refine Eq.next ?_
    refine Cq.seq ?_
    refine Cq.block ?_
    refine Cq.seq ?_
    refine Cq.seq ?_
    refine Cq.region ?_
    refine Sq.move .plain rfl rfl ?_
    refine Sq.move .plain rfl rfl ?_
    refine Sq.idxStr .plain rfl und9 rfl rfl (by omega) (str_at (by omega)) ?_
    refine Sq.lss .plain rfl rfl rfl ?_
    refine Sq.part (fun c45 => ?_) (fun c45 => ?_)
    · refine Sq.move .plain rfl rfl ?_
      refine Sq.off rfl rfl rfl rfl rfl rfl ?_
      refine Sq.off rfl rfl rfl rfl rfl rfl ?_
      refine Sq.off rfl rfl rfl rfl rfl rfl ?_
      refine Sq.off rfl rfl rfl rfl rfl rfl ?_
      refine Sq.pickT .plain rfl rfl rfl ?_
      refine Sq.nil ?_
      refine Eq.next ?_
      refine Cq.thn rfl ?_
      refine Cq.seq ?_
      refine Cq.region ?_
      refine Sq.assign .plain rfl rfl ?_
      refine Sq.assign .plain rfl rfl ?_
      refine Sq.nil ?_
      refine Eq.next ?_
      refine Cq.ret ?_
      refine Eq.pastRet ?_
      refine Eq.outRet ?_
      refine Eq.pastRet ?_
      refine Eq.pastRet ?_
      refine Eq.outRet ?_
      refine Eq.pastRet ?_
      refine Eq.ret2 rfl rfl rfl ?_
      exact ⟨⟨_, _, rfl, by omega⟩, rfl⟩
    refine Sq.move .plain rfl rfl ?_
    refine Sq.move (.met rfl rfl rfl) rfl rfl ?_
    refine Sq.move (.met rfl rfl rfl) rfl rfl ?_
    refine Sq.idxStr (.met rfl rfl rfl) rfl und9 rfl rfl (by omega) (str_at (by omega)) ?_
    refine Sq.gtr (.met rfl rfl rfl) rfl rfl rfl ?_
    refine Sq.part (fun c47 => ?_) (fun c47 => ?_)
    · refine Sq.pickF .plain rfl rfl rfl ?_
      refine Sq.nil ?_
      refine Eq.next ?_
      refine Cq.thn rfl ?_
      refine Cq.seq ?_
      refine Cq.region ?_
      refine Sq.assign .plain rfl rfl ?_
      refine Sq.assign .plain rfl rfl ?_
      refine Sq.nil ?_
      refine Eq.next ?_
      refine Cq.ret ?_
      refine Eq.pastRet ?_
      refine Eq.outRet ?_
      refine Eq.pastRet ?_
      refine Eq.pastRet ?_
      refine Eq.outRet ?_
      refine Eq.pastRet ?_
      refine Eq.ret2 rfl rfl rfl ?_
      exact ⟨⟨_, _, rfl, by omega⟩, rfl⟩
    refine Sq.pickF .plain rfl rfl rfl ?_
    refine Sq.nil ?_
    refine Eq.next ?_
    refine Cq.els rfl ?_
    refine Cq.skip ?_
    refine Eq.next ?_
    refine Cq.region ?_
    refine Sq.move .plain rfl rfl ?_
    refine Sq.mul .plain rfl rfl rfl (by omega) ?_
    refine Sq.move .plain rfl rfl ?_
    refine Sq.move .plain rfl rfl ?_
    refine Sq.idxStr .plain rfl und9 rfl rfl (by omega) (str_at (by omega)) ?_
    refine Sq.sub8 .plain rfl rfl rfl (by omega) ?_
    refine Sq.conv conv5_3 .plain rfl rfl (by omega) ?_
    refine Sq.add .plain rfl rfl rfl (by omega) ?_
    refine Sq.assign .plain rfl rfl ?_
    refine Sq.nil ?_
    refine Eq.end ?_
    refine Eq.next ?_
    refine Cq.region ?_
    refine Sq.move .plain rfl rfl ?_
    refine Sq.add .plain rfl rfl rfl (by omega) ?_
    refine Sq.assign .plain rfl rfl ?_
    refine Sq.nil ?_
    have e1 := toNat_succ hk.1
    refine Eq.round _ _ ⟨k + 1, _, rfl, rfl, by omega, hz, by rw [e1]; exact pow_step hn (by omega), rfl⟩ (by omega) (.cons rfl (.cons rfl (.cons rfl (.cons rfl (.nil)))))
  refine Sq.nil ?_
  refine Eq.next ?_
  refine Cq.els rfl ?_
  refine Cq.exit ?_
  refine Eq.past ?_
  refine Eq.past ?_
  refine Eq.hit ?_
  refine Eq.next ?_
  refine Cq.seq ?_
  refine Cq.seq ?_
  refine Cq.region ?_
  refine Sq.move .plain rfl rfl ?_
  refine Sq.nil ?_
  refine Eq.next ?_
  refine Cq.els rfl ?_
  refine Cq.skip ?_
  refine Eq.next ?_
  refine Cq.seq ?_
  refine Cq.region ?_
  refine Sq.move .plain rfl rfl ?_
  refine Sq.assign .plain rfl rfl ?_
  refine Sq.assign .plain rfl rfl ?_
  refine Sq.nil ?_
  refine Eq.next ?_
  refine Cq.ret ?_
  refine Eq.ret2 rfl rfl rfl ?_
  exact ⟨⟨_, _, rfl, by omega⟩, rfl⟩
set_option maxRecDepth 100000 in
theorem l3Parse_c (s : ByteArray) (hs : s.size ≤ 100000) (w0 : World) : Ret Try.prog 112 #[Value.string s] w0 (fun v w => (∃ (r : Value) (ok : Bool) (xs : List Int), v = .tuple #[r, .bool ok] ∧ Own w w0.heap.size 3 r (xs.map (Value.int .i64)) ∧ xs.length ≤ s.size + 1) ∧ Ext w0 w) := by
  have E := Ext.refl w0
  refine Ret.of (args := [Value.string s]) Try.func112 rfl rfl rfl ?_
  rintro _ rfl
  show Cq _ _ _ _ [(0, Value.string s)] _
  refine Cq.seq ?_
  refine Cq.region ?_
  refine Sq.assign .plain rfl rfl ?_
  refine Sq.assign .plain rfl rfl ?_
  refine Sq.nil ?_
  refine Eq.next ?_
  refine Cq.seq ?_
  refine Cq.region ?_
  refine Sq.lit sl56 rfl rfl .plain rfl rfl one_nil (fun b1 w2 e3 hlo4 ho5 _ => ?_)
  replace ho5 := ho5 w0.heap.size (Nat.le_refl _)
  have hs7 := Below.size e3
  replace E := E.trans e3
  refine Sq.assign .plain rfl rfl ?_
  refine Sq.nil ?_
  refine Eq.next ?_
  refine Cq.seq ?_
  refine Cq.seq ?_
  refine Cq.region ?_
  refine Sq.move .plain rfl rfl ?_
  refine Sq.eqlS .plain rfl rfl rfl ?_
  refine Sq.part (fun c8 => ?_) (fun c8 => ?_)
  · refine Sq.nil ?_
    refine Eq.next ?_
    refine Cq.thn rfl ?_
    refine Cq.seq ?_
    refine Cq.region ?_
    refine Sq.move .plain rfl rfl ?_
    refine Sq.assign .plain rfl rfl ?_
    refine Sq.assign .plain rfl rfl ?_
    refine Sq.nil ?_
    refine Eq.next ?_
    refine Cq.ret ?_
    refine Eq.pastRet ?_
    refine Eq.ret2 rfl rfl rfl ?_
    exact ⟨⟨_, _, [], rfl, Own.mono ho5 (by omega), by simp⟩, E⟩
  refine Sq.nil ?_
  refine Eq.next ?_
  refine Cq.els rfl ?_
  refine Cq.skip ?_
  refine Eq.next ?_
  refine Cq.seq ?_
  refine Cq.region ?_
  refine Sq.move .plain rfl rfl ?_
  refine Sq.call fn110 .plain rfl rfl (cut_c s 44 (by omega) _) ?_
  rintro v9 w10 ⟨⟨xs12, ho13, hxl14, hxs15⟩, e11⟩
  have hs16 := Below.size E
  have hs17 := Below.size e11
  replace E := E.trans e11
  replace ho5 := ho5.ext e11
  refine Sq.assign .plain rfl rfl ?_
  refine Sq.nil ?_
  refine Eq.next ?_
  refine Cq.seq ?_
  refine Cq.seq ?_
  refine Cq.region ?_
  refine Sq.assign .plain rfl rfl ?_
  refine Sq.nil ?_
  refine Eq.next ?_
  refine Cq.block ?_
  refine Cq.loop (fun nn w ls => ∃ (k : Int), ∃ (v : Value), ∃ (ys : List Int), ls = [(0, Value.string s), (4, v), (5, v9), (6, Value.int .i64 k)] ∧ (0 ≤ k ∧ k ≤ xs12.length) ∧ Own w w0.heap.size 3 v (ys.map (Value.int .i64)) ∧ ((ys.length : Int) = k) ∧ Ext w0 w ∧ Own w w2.heap.size 9 v9 (xs12.map Value.string) ∧ nn = ((xs12.length : Int) - k).toNat) _ _ ⟨0, _, [], rfl, by omega, Own.mono ho5 (by omega), rfl, E, ho13, rfl⟩ (.cons rfl (.cons rfl (.cons rfl (.cons rfl (.nil))))) ?_
  rintro nn wl1 ls ⟨k, v, ys, rfl, hk, ho, hl, E, ho13, rfl⟩
  have hs18 := Below.size E
  refine Cq.seq ?_
  refine Cq.seq ?_
  refine Cq.region ?_
  refine Sq.move .plain rfl rfl ?_
  refine Sq.move .plain rfl rfl ?_
  refine Sq.lenStrs (Own.row ho13) .plain rfl und91 rfl ?_
  refine Sq.lss .plain rfl rfl rfl ?_
  refine Sq.part (fun c19 => ?_) (fun c19 => ?_)
  · refine Sq.nil ?_
    refine Eq.next ?_
    refine Cq.thn rfl ?_
    refine Cq.skip ?_
    refine Eq.next ?_
    refine Cq.seq ?_
    refine Cq.block ?_
    refine Cq.seq ?_
    refine Cq.region ?_
    refine Sq.move .plain rfl rfl ?_
    refine Sq.move .plain rfl rfl ?_
    refine Sq.idxStrs sl91 one9 (Own.row ho13) .plain rfl rfl rfl .plain rfl rfl (by omega) (by omega) ?_
    refine Sq.call fn129 .plain rfl rfl (num10_c (xs12.getD k.toNat ByteArray.empty) (by exact Nat.le_trans (hxs15 _ (getD_mem (by omega))) (by omega)) _) ?_
    rintro _ _ ⟨⟨n20, ok21, rfl, hn22⟩, rfl⟩
    refine Sq.move .plain rfl rfl ?_
    refine Sq.extract .plain rfl rfl rfl ?_
    refine Sq.extract .plain rfl rfl rfl ?_
    refine Sq.assign .plain rfl rfl ?_
    refine Sq.assign .plain rfl rfl ?_
    refine Sq.nil ?_
    refine Eq.next ?_
    refine Cq.seq ?_
    refine Cq.seq ?_
    refine Cq.region ?_
    refine Sq.move .plain rfl rfl ?_
    refine Sq.partB (fun c23 => ?_) (fun c23 => ?_)
    · refine Sq.notT .plain rfl rfl ?_
      refine Sq.nil ?_
      refine Eq.next ?_
      refine Cq.els rfl ?_
      refine Cq.skip ?_
      refine Eq.next ?_
      refine Cq.region ?_
      refine Sq.move .plain rfl rfl ?_
      refine Sq.move .plain rfl rfl ?_
      refine Sq.app1 sl56 ho (by omega) (by simp; omega) .plain rfl rfl rfl rfl rfl rfl rfl (fun v24 w25 ho27 g26 _ => ?_)
      have hs28 := g26.size
      replace E := E.owned ho g26 (by omega)
      replace ho13 := ho13.owned ho g26 (by decide)
      refine Sq.assign .plain rfl rfl ?_
      refine Sq.nil ?_
      refine Eq.end ?_
      refine Eq.next ?_
      refine Cq.region ?_
      refine Sq.move .plain rfl rfl ?_
      refine Sq.add .plain rfl rfl rfl (by omega) ?_
      refine Sq.assign .plain rfl rfl ?_
      refine Sq.nil ?_
      refine Eq.round _ _ ⟨k + 1, _, _, rfl, by omega, Own.snocI ho27, by simp; omega, E, ho13, rfl⟩ (by omega) (.cons rfl (.cons rfl (.cons rfl (.cons rfl (.nil)))))
    refine Sq.notF .plain rfl rfl ?_
    refine Sq.nil ?_
    refine Eq.next ?_
    refine Cq.thn rfl ?_
    refine Cq.seq ?_
    refine Cq.region ?_
    refine Sq.assign .plain rfl rfl ?_
    refine Sq.assign .plain rfl rfl ?_
    refine Sq.nil ?_
    refine Eq.next ?_
    refine Cq.ret ?_
    refine Eq.pastRet ?_
    refine Eq.outRet ?_
    refine Eq.pastRet ?_
    refine Eq.pastRet ?_
    refine Eq.outRet ?_
    refine Eq.pastRet ?_
    refine Eq.ret2 rfl rfl rfl ?_
    exact ⟨⟨_, _, [], rfl, Own.nil _ _ _, by simp⟩, E⟩
  refine Sq.nil ?_
  refine Eq.next ?_
  refine Cq.els rfl ?_
  refine Cq.exit ?_
  refine Eq.past ?_
  refine Eq.past ?_
  refine Eq.hit ?_
  refine Eq.next ?_
  refine Cq.seq ?_
  refine Cq.region ?_
  refine Sq.move .plain rfl rfl ?_
  refine Sq.assign .plain rfl rfl ?_
  refine Sq.assign .plain rfl rfl ?_
  refine Sq.nil ?_
  refine Eq.next ?_
  refine Cq.ret ?_
  refine Eq.ret2 rfl rfl rfl ?_
  exact ⟨⟨_, _, ys, rfl, ho, by omega⟩, E⟩
set_option maxRecDepth 100000 in
theorem fmtA_c (w0 : World) (a : A) (nx ac : Value) (hnx : Rows w0 56 3 nx a.next) (hac : Bools w0 4 ac a.acc) : Ret Try.prog 113 #[Value.agg #[Value.int .i64 a.al, nx, ac]] w0 (fun v w => (∃ s, v = .string s ∧ s.size ≤ 2000) ∧ Ext w0 w) := by
  have E := Ext.refl w0
  refine Ret.of (args := [Value.agg #[Value.int .i64 a.al, nx, ac]]) Try.func113 rfl rfl rfl ?_
  rintro _ rfl
  show Cq _ _ _ _ [(0, Value.agg #[Value.int .i64 a.al, nx, ac])] _
  refine Cq.seq ?_
  refine Cq.region ?_
  refine Sq.box .plain rfl rfl (fun b1 w2 e3 hB4 hlo5 => ?_)
  have hd6 := Nat.le_trans (Below.size E) hlo5
  have hs7 := Below.size e3
  replace E := E.trans e3
  refine Sq.assign .plain rfl rfl ?_
  refine Sq.nil ?_
  refine Eq.next ?_
  refine Cq.seq ?_
  refine Cq.seq ?_
  refine Cq.region ?_
  refine Sq.loadAgg agg26 .plain rfl rfl hB4 rfl ?_
  have hd11 := hB4.lt
  refine Sq.call fn52 .plain rfl rfl (sValid_c _ a _ _ (hnx.ext E) (hac.ext E)) ?_
  rintro _ w9 ⟨rfl, e10⟩
  have hs12 := Below.size E
  have hs13 := Below.size e10
  replace E := E.trans e10
  replace hB4 := hB4.ext e10
  refine Sq.partB (fun hv => ?_) (fun hv => ?_)
  · refine Sq.notT .plain rfl rfl ?_
    refine Sq.nil ?_
    refine Eq.next ?_
    refine Cq.els rfl ?_
    refine Cq.skip ?_
    refine Eq.next ?_
    refine Cq.seq ?_
    refine Cq.region ?_
    refine Sq.fieldAddr fld26_0 .plain rfl rfl ?_
    refine Sq.loadB one3 .plain rfl rfl hB4 rfl ?_
    have hd17 := hB4.lt
    refine Sq.call fn128 .plain rfl rfl (fmtAl_c a.al _) ?_
    rintro _ w15 ⟨rfl, e16⟩
    have hs18 := Below.size E
    have hs19 := Below.size e16
    replace E := E.trans e16
    replace hB4 := hB4.ext e16
    refine Sq.assign .plain rfl rfl ?_
    refine Sq.nil ?_
    refine Eq.next ?_
    refine Cq.seq ?_
    refine Cq.seq ?_
    refine Cq.region ?_
    refine Sq.assign .plain rfl rfl ?_
    refine Sq.nil ?_
    refine Eq.next ?_
    refine Cq.block ?_
    have hfs := fmtAl_size a.al
    have hvs := validA_spec.1 hv
    have hv1 := hvs.2.1
    have hv2 := hvs.2.2.1
    refine Cq.loop (fun nn w ls => ∃ (i : Int), ∃ (t : ByteArray), ls = [(1, Value.pointer (some ⟨b1, 0, none⟩)), (3, Value.string t), (4, Value.int .i64 i)] ∧ (0 ≤ i ∧ i ≤ a.next.length) ∧ ((t.size : Int) ≤ 6 + 100 * i) ∧ Ext w0 w ∧ Blk w b1 26 [Value.int .i64 a.al, nx, ac] ∧ nn = ((a.next.length : Int) - i).toNat) _ _ ⟨0, _, rfl, by omega, by omega, E, hB4, rfl⟩ (.cons rfl (.cons rfl (.cons rfl (.nil)))) ?_
    rintro nn wl1 ls ⟨i, t, rfl, hi, ht, E, hB4, rfl⟩
    have hs20 := Below.size E
    have hr6 := valid_row6 hv (k := i.toNat)
    refine Cq.seq ?_
    refine Cq.seq ?_
    refine Cq.region ?_
    refine Sq.move .plain rfl rfl ?_
    refine Sq.fieldAddr fld26_1 .plain rfl rfl ?_
    refine Sq.loadB one23 .plain rfl rfl hB4 rfl ?_
    refine Sq.lenRows (hnx.ext E) .plain rfl und23 rfl ?_
    refine Sq.lss .plain rfl rfl rfl ?_
    refine Sq.part (fun c21 => ?_) (fun c21 => ?_)
    · refine Sq.nil ?_
      refine Eq.next ?_
      refine Cq.thn rfl ?_
      refine Cq.skip ?_
      refine Eq.next ?_
      refine Cq.seq ?_
      refine Cq.block ?_
      refine Cq.seq ?_
      refine Cq.region ?_
      refine Sq.assign .plain rfl rfl ?_
      refine Sq.nil ?_
      refine Eq.next ?_
      refine Cq.seq ?_
      refine Cq.seq ?_
      refine Cq.region ?_
      refine Sq.fieldAddr fld26_2 .plain rfl rfl ?_
      refine Sq.loadB one24 .plain rfl rfl hB4 rfl ?_
      refine Sq.move .plain rfl rfl ?_
      refine Sq.idxBools sl24 one4 (hac.ext E) .plain rfl rfl rfl .plain rfl rfl (by omega) (by omega) ?_
      refine Sq.partB (fun c22 => ?_) (fun c22 => ?_)
      · refine Sq.nil ?_
        refine Eq.next ?_
        refine Cq.thn rfl ?_
        refine Cq.region ?_
        refine Sq.assign .plain rfl rfl ?_
        refine Sq.nil ?_
        refine Eq.next ?_
        refine Cq.seq ?_
        refine Cq.region ?_
        refine Sq.move .plain rfl rfl ?_
        refine Sq.move .plain rfl rfl ?_
        refine Sq.cat .plain rfl rfl rfl (by show t.size + 2 ≤ _; omega) ?_
        refine Sq.assign .plain rfl rfl ?_
        refine Sq.nil ?_
        refine Eq.next ?_
        refine Cq.seq ?_
        refine Cq.region ?_
        refine Sq.assign .plain rfl rfl ?_
        refine Sq.nil ?_
        refine Eq.next ?_
        refine Cq.block ?_
        refine Cq.loop (fun nn w ls => ∃ (k : Int), ∃ (u : ByteArray), ls = [(1, Value.pointer (some ⟨b1, 0, none⟩)), (3, Value.string u), (4, Value.int .i64 i), (6, Value.int .i64 k)] ∧ (0 ≤ k ∧ k ≤ (a.next.getD i.toNat []).length) ∧ ((u.size : Int) ≤ 8 + 100 * i + 15 * k) ∧ Ext w0 w ∧ Blk w b1 26 [Value.int .i64 a.al, nx, ac] ∧ nn = (((a.next.getD i.toNat []).length : Int) - k).toNat) _ _ ⟨0, _, rfl, by omega, by rw [size_cat]; show ((t.size + 2 : Nat) : Int) ≤ _; omega, E, hB4, rfl⟩ (.cons rfl (.cons rfl (.cons rfl (.cons rfl (.nil))))) ?_
        rintro nn wl2 ls ⟨k, u, rfl, hk, hu, E, hB4, rfl⟩
        have hs23 := Below.size E
        have hen := valid_at hv (k := i.toNat) (j := k.toNat)
        refine Cq.seq ?_
        refine Cq.seq ?_
        refine Cq.region ?_
        refine Sq.move .plain rfl rfl ?_
        refine Sq.fieldAddr fld26_1 .plain rfl rfl ?_
        refine Sq.loadB one23 .plain rfl rfl hB4 rfl ?_
        refine Sq.move .plain rfl rfl ?_
        refine Sq.idxRows sl23 one56 (hnx.ext E) .plain rfl rfl rfl .plain rfl rfl (by omega) (by omega) (fun r24 hr25 => ?_)
        refine Sq.lenInts hr25 .plain rfl und56 rfl ?_
        refine Sq.lss .plain rfl rfl rfl ?_
        refine Sq.part (fun c26 => ?_) (fun c26 => ?_)
        · refine Sq.nil ?_
          refine Eq.next ?_
          refine Cq.thn rfl ?_
          refine Cq.skip ?_
          refine Eq.next ?_
          refine Cq.seq ?_
          refine Cq.block ?_
          refine Cq.seq ?_
          refine Cq.seq ?_
          refine Cq.region ?_
          refine Sq.move .plain rfl rfl ?_
          refine Sq.gtr .plain rfl rfl rfl ?_
          refine Sq.part (fun c27 => ?_) (fun c27 => ?_)
          · refine Sq.nil ?_
            refine Eq.next ?_
            refine Cq.thn rfl ?_
            refine Cq.region ?_
            refine Sq.move .plain rfl rfl ?_
            refine Sq.cat .plain rfl rfl rfl (by show u.size + 1 ≤ _; omega) ?_
            refine Sq.assign .plain rfl rfl ?_
            refine Sq.nil ?_
            refine Eq.next ?_
            refine Cq.region ?_
            refine Sq.move .plain rfl rfl ?_
            refine Sq.fieldAddr fld26_1 .plain rfl rfl ?_
            refine Sq.loadB one23 .plain rfl rfl hB4 rfl ?_
            refine Sq.move .plain rfl rfl ?_
            refine Sq.idxRows sl23 one56 (hnx.ext E) .plain rfl rfl rfl .plain rfl rfl (by omega) (by omega) (fun r28 hr29 => ?_)
            refine Sq.move .plain rfl rfl ?_
            refine Sq.idxInts sl56 one3 hr29 .plain rfl rfl rfl .plain rfl rfl (by omega) (by omega) ?_
            have hd35 := hB4.lt
            refine Sq.call fn130 .plain rfl rfl (dec_c ((a.next.getD i.toNat []).getD k.toNat 0) (by have := hen (by omega) (by omega); omega) _) ?_
            rintro _ w31 ⟨⟨s33, rfl, hs34⟩, e32⟩
            have hs36 := Below.size E
            have hs37 := Below.size e32
            replace E := E.trans e32
            replace hB4 := hB4.ext e32
            refine Sq.cat .plain rfl rfl rfl (by (try simp only [size_cat]); first | omega | (show (u.size + 1) + _ ≤ _; omega)) ?_
            refine Sq.assign .plain rfl rfl ?_
            refine Sq.nil ?_
            refine Eq.end ?_
            refine Eq.next ?_
            refine Cq.region ?_
            refine Sq.move .plain rfl rfl ?_
            refine Sq.add .plain rfl rfl rfl (by omega) ?_
            refine Sq.assign .plain rfl rfl ?_
            refine Sq.nil ?_
            refine Eq.round _ _ ⟨k + 1, _, rfl, by omega, by simp only [size_cat]; first | omega | (show ((u.size + 1 + _ : Nat) : Int) ≤ _; omega), E, hB4, rfl⟩ (by omega) (.cons rfl (.cons rfl (.cons rfl (.cons rfl (.nil)))))
          refine Sq.nil ?_
          refine Eq.next ?_
          refine Cq.els rfl ?_
          refine Cq.skip ?_
          refine Eq.next ?_
          refine Cq.region ?_
          refine Sq.move .plain rfl rfl ?_
          refine Sq.fieldAddr fld26_1 .plain rfl rfl ?_
          refine Sq.loadB one23 .plain rfl rfl hB4 rfl ?_
          refine Sq.move .plain rfl rfl ?_
          refine Sq.idxRows sl23 one56 (hnx.ext E) .plain rfl rfl rfl .plain rfl rfl (by omega) (by omega) (fun r38 hr39 => ?_)
          refine Sq.move .plain rfl rfl ?_
          refine Sq.idxInts sl56 one3 hr39 .plain rfl rfl rfl .plain rfl rfl (by omega) (by omega) ?_
          have hd45 := hB4.lt
          refine Sq.call fn130 .plain rfl rfl (dec_c ((a.next.getD i.toNat []).getD k.toNat 0) (by have := hen (by omega) (by omega); omega) _) ?_
          rintro _ w41 ⟨⟨s43, rfl, hs44⟩, e42⟩
          have hs46 := Below.size E
          have hs47 := Below.size e42
          replace E := E.trans e42
          replace hB4 := hB4.ext e42
          refine Sq.cat .plain rfl rfl rfl (by (try simp only [size_cat]); first | omega | (show (u.size + 1) + _ ≤ _; omega)) ?_
          refine Sq.assign .plain rfl rfl ?_
          refine Sq.nil ?_
          refine Eq.end ?_
          refine Eq.next ?_
          refine Cq.region ?_
          refine Sq.move .plain rfl rfl ?_
          refine Sq.add .plain rfl rfl rfl (by omega) ?_
          refine Sq.assign .plain rfl rfl ?_
          refine Sq.nil ?_
          refine Eq.round _ _ ⟨k + 1, _, rfl, by omega, by simp only [size_cat]; first | omega | (show ((u.size + 1 + _ : Nat) : Int) ≤ _; omega), E, hB4, rfl⟩ (by omega) (.cons rfl (.cons rfl (.cons rfl (.cons rfl (.nil)))))
        refine Sq.nil ?_
        refine Eq.next ?_
        refine Cq.els rfl ?_
        refine Cq.exit ?_
        refine Eq.past ?_
        refine Eq.past ?_
        refine Eq.hit ?_
        refine Eq.end ?_
        refine Eq.next ?_
        refine Cq.region ?_
        refine Sq.move .plain rfl rfl ?_
        refine Sq.add .plain rfl rfl rfl (by omega) ?_
        refine Sq.assign .plain rfl rfl ?_
        refine Sq.nil ?_
        refine Eq.round _ _ ⟨i + 1, _, rfl, by omega, by omega, E, hB4, rfl⟩ (by omega) (.cons rfl (.cons rfl (.cons rfl (.nil))))
      refine Sq.nil ?_
      refine Eq.next ?_
      refine Cq.els rfl ?_
      refine Cq.skip ?_
      refine Eq.next ?_
      refine Cq.seq ?_
      refine Cq.region ?_
      refine Sq.move .plain rfl rfl ?_
      refine Sq.move .plain rfl rfl ?_
      refine Sq.cat .plain rfl rfl rfl (by show t.size + 2 ≤ _; omega) ?_
      refine Sq.assign .plain rfl rfl ?_
      refine Sq.nil ?_
      refine Eq.next ?_
      refine Cq.seq ?_
      refine Cq.region ?_
      refine Sq.assign .plain rfl rfl ?_
      refine Sq.nil ?_
      refine Eq.next ?_
      refine Cq.block ?_
      refine Cq.loop (fun nn w ls => ∃ (k : Int), ∃ (u : ByteArray), ls = [(1, Value.pointer (some ⟨b1, 0, none⟩)), (3, Value.string u), (4, Value.int .i64 i), (6, Value.int .i64 k)] ∧ (0 ≤ k ∧ k ≤ (a.next.getD i.toNat []).length) ∧ ((u.size : Int) ≤ 8 + 100 * i + 15 * k) ∧ Ext w0 w ∧ Blk w b1 26 [Value.int .i64 a.al, nx, ac] ∧ nn = (((a.next.getD i.toNat []).length : Int) - k).toNat) _ _ ⟨0, _, rfl, by omega, by rw [size_cat]; show ((t.size + 2 : Nat) : Int) ≤ _; omega, E, hB4, rfl⟩ (.cons rfl (.cons rfl (.cons rfl (.cons rfl (.nil))))) ?_
      rintro nn wl2 ls ⟨k, u, rfl, hk, hu, E, hB4, rfl⟩
      have hs48 := Below.size E
      have hen := valid_at hv (k := i.toNat) (j := k.toNat)
      refine Cq.seq ?_
      refine Cq.seq ?_
      refine Cq.region ?_
      refine Sq.move .plain rfl rfl ?_
      refine Sq.fieldAddr fld26_1 .plain rfl rfl ?_
      refine Sq.loadB one23 .plain rfl rfl hB4 rfl ?_
      refine Sq.move .plain rfl rfl ?_
      refine Sq.idxRows sl23 one56 (hnx.ext E) .plain rfl rfl rfl .plain rfl rfl (by omega) (by omega) (fun r49 hr50 => ?_)
      refine Sq.lenInts hr50 .plain rfl und56 rfl ?_
      refine Sq.lss .plain rfl rfl rfl ?_
      refine Sq.part (fun c51 => ?_) (fun c51 => ?_)
      · refine Sq.nil ?_
        refine Eq.next ?_
        refine Cq.thn rfl ?_
        refine Cq.skip ?_
        refine Eq.next ?_
        refine Cq.seq ?_
        refine Cq.block ?_
        refine Cq.seq ?_
        refine Cq.seq ?_
        refine Cq.region ?_
        refine Sq.move .plain rfl rfl ?_
        refine Sq.gtr .plain rfl rfl rfl ?_
        refine Sq.part (fun c52 => ?_) (fun c52 => ?_)
        · refine Sq.nil ?_
          refine Eq.next ?_
          refine Cq.thn rfl ?_
          refine Cq.region ?_
          refine Sq.move .plain rfl rfl ?_
          refine Sq.cat .plain rfl rfl rfl (by show u.size + 1 ≤ _; omega) ?_
          refine Sq.assign .plain rfl rfl ?_
          refine Sq.nil ?_
          refine Eq.next ?_
          refine Cq.region ?_
          refine Sq.move .plain rfl rfl ?_
          refine Sq.fieldAddr fld26_1 .plain rfl rfl ?_
          refine Sq.loadB one23 .plain rfl rfl hB4 rfl ?_
          refine Sq.move .plain rfl rfl ?_
          refine Sq.idxRows sl23 one56 (hnx.ext E) .plain rfl rfl rfl .plain rfl rfl (by omega) (by omega) (fun r53 hr54 => ?_)
          refine Sq.move .plain rfl rfl ?_
          refine Sq.idxInts sl56 one3 hr54 .plain rfl rfl rfl .plain rfl rfl (by omega) (by omega) ?_
          have hd60 := hB4.lt
          refine Sq.call fn130 .plain rfl rfl (dec_c ((a.next.getD i.toNat []).getD k.toNat 0) (by have := hen (by omega) (by omega); omega) _) ?_
          rintro _ w56 ⟨⟨s58, rfl, hs59⟩, e57⟩
          have hs61 := Below.size E
          have hs62 := Below.size e57
          replace E := E.trans e57
          replace hB4 := hB4.ext e57
          refine Sq.cat .plain rfl rfl rfl (by (try simp only [size_cat]); first | omega | (show (u.size + 1) + _ ≤ _; omega)) ?_
          refine Sq.assign .plain rfl rfl ?_
          refine Sq.nil ?_
          refine Eq.end ?_
          refine Eq.next ?_
          refine Cq.region ?_
          refine Sq.move .plain rfl rfl ?_
          refine Sq.add .plain rfl rfl rfl (by omega) ?_
          refine Sq.assign .plain rfl rfl ?_
          refine Sq.nil ?_
          refine Eq.round _ _ ⟨k + 1, _, rfl, by omega, by simp only [size_cat]; first | omega | (show ((u.size + 1 + _ : Nat) : Int) ≤ _; omega), E, hB4, rfl⟩ (by omega) (.cons rfl (.cons rfl (.cons rfl (.cons rfl (.nil)))))
        refine Sq.nil ?_
        refine Eq.next ?_
        refine Cq.els rfl ?_
        refine Cq.skip ?_
        refine Eq.next ?_
        refine Cq.region ?_
        refine Sq.move .plain rfl rfl ?_
        refine Sq.fieldAddr fld26_1 .plain rfl rfl ?_
        refine Sq.loadB one23 .plain rfl rfl hB4 rfl ?_
        refine Sq.move .plain rfl rfl ?_
        refine Sq.idxRows sl23 one56 (hnx.ext E) .plain rfl rfl rfl .plain rfl rfl (by omega) (by omega) (fun r63 hr64 => ?_)
        refine Sq.move .plain rfl rfl ?_
        refine Sq.idxInts sl56 one3 hr64 .plain rfl rfl rfl .plain rfl rfl (by omega) (by omega) ?_
        have hd70 := hB4.lt
        refine Sq.call fn130 .plain rfl rfl (dec_c ((a.next.getD i.toNat []).getD k.toNat 0) (by have := hen (by omega) (by omega); omega) _) ?_
        rintro _ w66 ⟨⟨s68, rfl, hs69⟩, e67⟩
        have hs71 := Below.size E
        have hs72 := Below.size e67
        replace E := E.trans e67
        replace hB4 := hB4.ext e67
        refine Sq.cat .plain rfl rfl rfl (by (try simp only [size_cat]); first | omega | (show (u.size + 1) + _ ≤ _; omega)) ?_
        refine Sq.assign .plain rfl rfl ?_
        refine Sq.nil ?_
        refine Eq.end ?_
        refine Eq.next ?_
        refine Cq.region ?_
        refine Sq.move .plain rfl rfl ?_
        refine Sq.add .plain rfl rfl rfl (by omega) ?_
        refine Sq.assign .plain rfl rfl ?_
        refine Sq.nil ?_
        refine Eq.round _ _ ⟨k + 1, _, rfl, by omega, by simp only [size_cat]; first | omega | (show ((u.size + 1 + _ : Nat) : Int) ≤ _; omega), E, hB4, rfl⟩ (by omega) (.cons rfl (.cons rfl (.cons rfl (.cons rfl (.nil)))))
      refine Sq.nil ?_
      refine Eq.next ?_
      refine Cq.els rfl ?_
      refine Cq.exit ?_
      refine Eq.past ?_
      refine Eq.past ?_
      refine Eq.hit ?_
      refine Eq.end ?_
      refine Eq.next ?_
      refine Cq.region ?_
      refine Sq.move .plain rfl rfl ?_
      refine Sq.add .plain rfl rfl rfl (by omega) ?_
      refine Sq.assign .plain rfl rfl ?_
      refine Sq.nil ?_
      refine Eq.round _ _ ⟨i + 1, _, rfl, by omega, by omega, E, hB4, rfl⟩ (by omega) (.cons rfl (.cons rfl (.cons rfl (.nil))))
    refine Sq.nil ?_
    refine Eq.next ?_
    refine Cq.els rfl ?_
    refine Cq.exit ?_
    refine Eq.past ?_
    refine Eq.past ?_
    refine Eq.hit ?_
    refine Eq.next ?_
    refine Cq.seq ?_
    refine Cq.region ?_
    refine Sq.move .plain rfl rfl ?_
    refine Sq.assign .plain rfl rfl ?_
    refine Sq.nil ?_
    refine Eq.next ?_
    refine Cq.ret ?_
    refine Eq.ret1 rfl rfl ?_
    exact ⟨⟨_, rfl, by first | (show 0 ≤ 2000; omega) | omega⟩, E⟩
  refine Sq.notF .plain rfl rfl ?_
  refine Sq.nil ?_
  refine Eq.next ?_
  refine Cq.thn rfl ?_
  refine Cq.seq ?_
  refine Cq.region ?_
  refine Sq.assign .plain rfl rfl ?_
  refine Sq.nil ?_
  refine Eq.next ?_
  refine Cq.ret ?_
  refine Eq.pastRet ?_
  refine Eq.ret1 rfl rfl ?_
  exact ⟨⟨_, rfl, by first | (show 0 ≤ 2000; omega) | omega⟩, E⟩
end Go.Proofs.Ytdejmfkpohgamaa
set_option linter.unusedSimpArgs false
set_option linter.unusedVariables false
namespace Go.Proofs.Ytdejmfkpohgamaa
open Go.RowKit
set_option maxRecDepth 100000 in
theorem parseA_c (s : ByteArray) (hs : s.size ≤ 100) (w0 : World) : Ret Try.prog 84 #[Value.string s] w0 (fun v w => (∃ (u : Value) (ok : Bool) (a : A), v = .tuple #[u, .bool ok] ∧ OwnA w w0.heap.size u a ∧ Small 200 a ∧ 0 ≤ a.al ∧ a.al ≤ 63) ∧ Ext w0 w) := by
  have E := Ext.refl w0
  refine Ret.of (args := [Value.string s]) Try.func84 rfl rfl rfl ?_
  rintro _ rfl
  show Cq _ _ _ _ [(0, Value.string s)] _
  refine Cq.seq ?_
  refine Cq.region ?_
  refine Sq.alloc zero26 .plain rfl (fun b1 w2 e3 hB4 hlo5 => ?_)
  have hd6 := Nat.le_trans (Below.size E) hlo5
  have hs7 := Below.size e3
  replace E := E.trans e3
  refine Sq.assign .plain rfl rfl ?_
  refine Sq.nil ?_
  refine Eq.next ?_
  refine Cq.seq ?_
  refine Cq.region ?_
  refine Sq.move .plain rfl rfl ?_
  have hd15 := hB4.lt
  refine Sq.call fn110 .plain rfl rfl (cut_c s 32 (by omega) _) ?_
  rintro v8 w9 ⟨⟨xs11, ho12, hxl13, hxs14⟩, e10⟩
  have hs16 := Below.size E
  have hs17 := Below.size e10
  replace E := E.trans e10
  replace hB4 := hB4.ext e10
  refine Sq.assign .plain rfl rfl ?_
  refine Sq.nil ?_
  refine Eq.next ?_
  refine Cq.seq ?_
  refine Cq.region ?_
  refine Sq.move .plain rfl rfl ?_
  refine Sq.idxStrs sl91 one9 (Own.row ho12) .plain rfl rfl rfl .plain rfl rfl (by omega) (by omega) ?_
  have hd24 := hB4.lt
  refine Sq.call fn111 .plain rfl rfl (parseAl_c ((xs11.getD (0 : Int).toNat ByteArray.empty)) _) ?_
  rintro _ w19 ⟨⟨n21, ok22, rfl, hn23⟩, e20⟩
  have hs25 := Below.size E
  have hs26 := Below.size e20
  replace E := E.trans e20
  replace hB4 := hB4.ext e20
  replace ho12 := ho12.ext e20
  refine Sq.move .plain rfl rfl ?_
  refine Sq.extract .plain rfl rfl rfl ?_
  refine Sq.extract .plain rfl rfl rfl ?_
  refine Sq.assign .plain rfl rfl ?_
  refine Sq.assign .plain rfl rfl ?_
  refine Sq.nil ?_
  refine Eq.next ?_
  refine Cq.seq ?_
  refine Cq.seq ?_
  refine Cq.region ?_
  refine Sq.move .plain rfl rfl ?_
  refine Sq.partB (fun c27 => ?_) (fun c27 => ?_)
  · refine Sq.notT .plain rfl rfl ?_
    refine Sq.nil ?_
    refine Eq.next ?_
    refine Cq.els rfl ?_
    refine Cq.skip ?_
    refine Eq.next ?_
    refine Cq.seq ?_
    refine Cq.region ?_
    refine Sq.move .plain rfl rfl ?_
    refine Sq.build st26 rfl rfl .plain rfl rfl (one_cons rfl one_nil) rfl ?_
    refine Sq.alloc zero26 .plain rfl (fun b28 w29 e30 hB31 hlo32 => ?_)
    have hd33 := Nat.le_trans (Below.size E) hlo32
    have hd34 := Nat.lt_of_lt_of_le hB4.lt hlo32
    have hs35 := Below.size e30
    replace E := E.trans e30
    replace hB4 := hB4.ext e30
    replace ho12 := ho12.ext e30
    refine Sq.storeAgg agg26 .plain rfl rfl (one_cons rfl (one_cons rfl (one_cons rfl one_nil))) hB31 rfl rfl (fun w36 g37 hB38 => ?_)
    have hs39 := World.grownBy.size g37
    replace E := E.grown g37 (fun k hk => by injection hk with hk; subst hk; omega)
    replace hB4 := hB4.grown g37 (by intro h; injection h with h; omega)
    replace ho12 := ho12.stored g37 hB31 (by decide)
    replace hB31 := hB38
    refine Sq.nil ?_
    refine Eq.next ?_
    refine Cq.seq ?_
    refine Cq.seq ?_
    refine Cq.region ?_
    refine Sq.assign .plain rfl rfl ?_
    refine Sq.nil ?_
    refine Eq.next ?_
    refine Cq.block ?_
    refine Cq.loop (fun nn w ls => ∃ (i : Int), ∃ (nxv : Value), ∃ (acv : Value), ∃ (xss : List (List Int)), ∃ (ys : List Bool), ls = [(0, Value.string s), (2, Value.pointer (some ⟨b1, 0, none⟩)), (4, v8), (7, Value.pointer (some ⟨b28, 0, none⟩)), (8, Value.int .i64 i)] ∧ (1 ≤ i ∧ i ≤ xs11.length) ∧ Blk w b28 26 [Value.int .i64 n21, nxv, acv] ∧ OwnRows w w0.heap.size w.heap.size 56 3 nxv xss ∧ Own w w0.heap.size 4 acv (ys.map Value.bool) ∧ ((xss.length : Int) = i - 1 ∧ (ys.length : Int) = i - 1 ∧ ∀ row ∈ xss, row.length ≤ 150) ∧ Ext w0 w ∧ Blk w b1 26 [Value.int .i64 0, Value.slice none 0 0, Value.slice none 0 0] ∧ Own w w2.heap.size 9 v8 (xs11.map Value.string) ∧ nn = ((xs11.length : Int) - i).toNat) _ _ ⟨1, _, _, [], [], rfl, by omega, hB31, OwnRows.nil _ _ _ _ _, Own.nil _ _ _, by simp, E, hB4, ho12, rfl⟩ (.cons rfl (.cons rfl (.cons rfl (.cons rfl (.cons rfl (.nil)))))) ?_
    rintro nn wl1 ls ⟨i, nxv, acv, xss, ys, rfl, hi, hB7, hor, hoa, hxl, E, hB4, ho12, rfl⟩
    have hs40 := Below.size E
    refine Cq.seq ?_
    refine Cq.seq ?_
    refine Cq.region ?_
    refine Sq.move .plain rfl rfl ?_
    refine Sq.move .plain rfl rfl ?_
    refine Sq.lenStrs (Own.row ho12) .plain rfl und91 rfl ?_
    refine Sq.lss .plain rfl rfl rfl ?_
    refine Sq.part (fun c41 => ?_) (fun c41 => ?_)
    · refine Sq.nil ?_
      refine Eq.next ?_
      refine Cq.thn rfl ?_
      refine Cq.skip ?_
      refine Eq.next ?_
      refine Cq.seq ?_
      refine Cq.block ?_
      refine Cq.seq ?_
      refine Cq.seq ?_
      refine Cq.region ?_
      refine Sq.move .plain rfl rfl ?_
      refine Sq.move .plain rfl rfl ?_
      refine Sq.idxStrs sl91 one9 (Own.row ho12) .plain rfl rfl rfl .plain rfl rfl (by omega) (by omega) ?_
      refine Sq.eqlS .plain rfl rfl rfl ?_
      refine Sq.part (fun hne => ?_) (fun hne => ?_)
      · refine Sq.nil ?_
        refine Eq.next ?_
        refine Cq.thn rfl ?_
        refine Cq.seq ?_
        refine Cq.region ?_
        refine Sq.build st26 rfl rfl .plain rfl rfl one_nil rfl ?_
        refine Sq.storeAgg agg26 .plain rfl rfl (one_cons rfl (one_cons rfl (one_cons rfl one_nil))) hB4 rfl rfl (fun w42 g43 hB44 => ?_)
        have hs45 := World.grownBy.size g43
        replace E := E.grown g43 (fun k hk => by injection hk with hk; subst hk; omega)
        replace hB4 := hB44
        refine Sq.assign .plain rfl rfl ?_
        refine Sq.nil ?_
        refine Eq.next ?_
        refine Cq.ret ?_
        refine Eq.pastRet ?_
        refine Eq.outRet ?_
        refine Eq.pastRet ?_
        refine Eq.pastRet ?_
        refine Eq.outRet ?_
        refine Eq.pastRet ?_
        refine Eq.retCell2 rfl rfl agg26 hB4 rfl rfl ?_
        exact ⟨⟨_, _, zeroA, rfl, ⟨_, _, rfl, OwnRows.nil _ _ _ _ _, Own.nil _ _ _⟩, by refine ⟨?_, ?_, ?_, ?_⟩ <;> simp [zeroA], by simp [zeroA]⟩, E⟩
      refine Sq.nil ?_
      refine Eq.next ?_
      refine Cq.els rfl ?_
      refine Cq.skip ?_
      refine Eq.next ?_
      refine Cq.seq ?_
      refine Cq.region ?_
      have hne1 := str_ne hne
      have hps := hxs14 _ (getD_mem (d := ByteArray.empty) (k := i.toNat) (by omega))
      have hcl : ((xs11.getD i.toNat ByteArray.empty).extract (1 : Int).toNat (xs11.getD i.toNat ByteArray.empty).size).size ≤ 100 := Nat.le_trans (size_cut _) (by omega)
      refine Sq.move .plain rfl rfl ?_
      refine Sq.move .plain rfl rfl ?_
      refine Sq.idxStrs sl91 one9 (Own.row ho12) .plain rfl rfl rfl .plain rfl rfl (by omega) (by omega) ?_
      refine Sq.val .plain rfl rfl (Still.cutL und9 rfl rfl (by omega)) ?_
      have hd54 := hB4.lt
      have hd55 := hB7.lt
      refine Sq.call fn112 .plain rfl rfl (l3Parse_c (((xs11.getD i.toNat ByteArray.empty).extract (1 : Int).toNat (xs11.getD i.toNat ByteArray.empty).size)) (by omega) _) ?_
      rintro _ w47 ⟨⟨r49, ok50, xs51, rfl, ho52, hl53⟩, e48⟩
      have hs56 := Below.size E
      have hs57 := Below.size e48
      replace E := E.trans e48
      replace hB4 := hB4.ext e48
      replace ho12 := ho12.ext e48
      replace hB7 := hB7.ext e48
      replace hor := hor.ext e48
      replace hoa := hoa.ext e48
      refine Sq.move .plain rfl rfl ?_
      refine Sq.extract .plain rfl rfl rfl ?_
      refine Sq.extract .plain rfl rfl rfl ?_
      refine Sq.assign .plain rfl rfl ?_
      refine Sq.assign .plain rfl rfl ?_
      refine Sq.nil ?_
      refine Eq.next ?_
      refine Cq.seq ?_
      refine Cq.seq ?_
      refine Cq.region ?_
      refine Sq.move .plain rfl rfl ?_
      refine Sq.partB (fun c58 => ?_) (fun c58 => ?_)
      · refine Sq.notT .plain rfl rfl ?_
        refine Sq.nil ?_
        refine Eq.next ?_
        refine Cq.els rfl ?_
        refine Cq.skip ?_
        refine Eq.next ?_
        refine Cq.seq ?_
        refine Cq.region ?_
        refine Sq.fieldAddr fld26_1 .plain rfl rfl ?_
        refine Sq.loadB one23 .plain rfl rfl hB7 rfl ?_
        refine Sq.move .plain rfl rfl ?_
        obtain ⟨rs63, q64, q65, q66⟩ := OwnRows.open hor (by decide)
        have q66x := Ext.refl w47
        refine Sq.app1 sl23 q64 (by omega) (by rw [q65]; first | omega | (simp; omega)) .plain rfl rfl rfl rfl rfl rfl (Row.one (Own.row ho52)) (fun v59 w60 ho62 g61 _ => ?_)
        have hs67 := g61.size
        have ho62r := q66 _ xs51 _ _ _ (Ext.refl _) (Own.mono ho52 (by omega)) (by omega) ho62 g61
        replace E := E.owned q64 g61 (by omega)
        replace hB4 := hB4.owned q64 g61 (by decide)
        replace ho12 := ho12.owned q64 g61 (by decide)
        replace hB7 := hB7.owned q64 g61 (by decide)
        replace hoa := hoa.owned q64 g61 (by decide)
        refine Sq.fieldAddr fld26_1 .plain rfl rfl ?_
        refine Sq.store one23 .plain rfl rfl (Rows.one (OwnRows.rows ho62r)) hB7 (by simp) (fun w68 g69 hB70 => ?_)
        have hs71 := World.grownBy.size g69
        replace E := E.grown g69 (fun k hk => by injection hk with hk; subst hk; omega)
        replace hB4 := hB4.grown g69 (by intro h; injection h with h; omega)
        replace ho12 := ho12.stored g69 hB7 (by decide)
        replace hoa := hoa.stored g69 hB7 (by decide)
        replace ho62r := ho62r.stored g69 hB7 (by decide) (by decide)
        replace hB7 := hB70
        refine Sq.nil ?_
        refine Eq.next ?_
        obtain ⟨pS, hpS⟩ := Strs.at (Own.row ho12) (i := i) (by omega) (by omega)
        refine Cq.drawS 10 (fun w' => Blk w' b28 26 [Value.int .i64 n21, v59, acv] ∧ At w' 9 v8 i pS (.string (xs11.getD i.toNat ByteArray.empty))) mixed (⟨hB7, hpS⟩) (fun w72 e73 hS => ?_)
        clear hS
        have hs74 := Below.size e73
        replace E := E.trans e73
        replace hB4 := hB4.ext e73
        replace ho12 := ho12.ext e73
        replace hB7 := hB7.ext e73
        replace hoa := hoa.ext e73
        replace ho62r := ho62r.ext e73
        replace hpS := hpS.ext e73
        refine Gq.st 0 rfl (by kernel_rfl) rfl .plain rfl (fun _ _ _ h => h) ⟨hB7, hpS⟩ (fun w' x => Still.fieldAddr fld26_2 rfl) ?_
        refine Gq.st 1 rfl (by kernel_rfl) rfl .plain rfl (fun _ _ _ h => h) ⟨hB7, hpS⟩ (fun w' x => Still.loadB one24 rfl x.1 rfl) ?_
        refine Gq.st 2 rfl (by kernel_rfl) rfl .plain rfl (fun _ _ _ h => h) ⟨hB7, hpS⟩ (fun w' x => Still.move rfl) ?_
        refine Gq.st 3 rfl (by kernel_rfl) rfl .plain rfl (fun _ _ _ h => h) ⟨hB7, hpS⟩ (fun w' x => Still.move rfl) ?_
        refine Gq.st 4 rfl (by kernel_rfl) rfl .plain rfl (fun _ _ _ h => h) ⟨hB7, hpS⟩ (fun w' x => Still.at' sl91 hpS rfl rfl) ?_
        refine Gq.st 5 rfl (by kernel_rfl) rfl .plain rfl (fun _ _ _ h => h) ⟨hB7, hpS⟩ (fun w' x => Still.loadA one9 rfl (x.2).1) ?_
        refine Gq.st 6 rfl (by kernel_rfl) rfl .plain rfl (fun _ _ _ h => h) ⟨hB7, hpS⟩ (fun w' x => Still.idxStr und9 rfl rfl (by omega) (str_at (by omega))) ?_
        refine Gq.st 7 rfl (by kernel_rfl) rfl .plain rfl (fun _ _ _ h => h) ⟨hB7, hpS⟩ (fun w' x => Still.eql rfl rfl) ?_
        refine Gq.one 8 rfl (by kernel_rfl) ?_
        refine Sq.lit sl24 rfl rfl .plain rfl rfl (one_cons rfl one_nil) (fun b75 w76 e77 hlo78 ho79 _ => ?_)
        replace ho79 := ho79 w72.heap.size (Nat.le_refl _)
        have hs81 := Below.size e77
        replace E := E.trans e77
        replace hB4 := hB4.ext e77
        replace ho12 := ho12.ext e77
        replace hB7 := hB7.ext e77
        replace hoa := hoa.ext e77
        replace ho62r := ho62r.ext e77
        replace hpS := hpS.ext e77
        refine Sq.nil ?_
        refine Eq.goes (fun _ => ⟨hB7, hpS⟩) ?_
        refine Gq.one 9 rfl (by kernel_rfl) ?_
        refine Sq.app sl24 hoa (by omega) (Own.row ho79) (one_cons rfl one_nil) (by first | omega | (simp; omega)) .plain rfl rfl rfl rfl (fun v82 w83 ho85 g84 => ?_)
        have hs86 := g84.size
        replace E := E.owned hoa g84 (by omega)
        replace hB4 := hB4.owned hoa g84 (by decide)
        replace ho12 := ho12.owned hoa g84 (by decide)
        replace hB7 := hB7.owned hoa g84 (by decide)
        replace ho62r := ho62r.owned hoa g84 (by decide) (by decide)
        replace hpS := hpS.owned hoa g84 (by decide)
        refine Sq.nil ?_
        refine Eq.goes (fun _ => ⟨hB7, hpS⟩) ?_
        refine Gq.one 10 rfl (by kernel_rfl) ?_
        refine Sq.fieldAddr fld26_2 .plain rfl rfl ?_
        refine Sq.nil ?_
        refine Eq.goes (fun h => absurd h (by decide)) ?_
        refine Gq.one 11 rfl (by kernel_rfl) ?_
        refine Sq.store one24 .plain rfl rfl (Row.one (Own.row ho85)) hB7 (by simp) (fun w87 g88 hB89 => ?_)
        have hs90 := World.grownBy.size g88
        replace E := E.grown g88 (fun k hk => by injection hk with hk; subst hk; omega)
        replace hB4 := hB4.grown g88 (by intro h; injection h with h; omega)
        replace ho12 := ho12.stored g88 hB7 (by decide)
        replace ho62r := ho62r.stored g88 hB7 (by decide) (by decide)
        replace ho85 := ho85.stored g88 hB7 (by decide)
        replace hB7 := hB89
        refine Sq.nil ?_
        refine Eq.goes (fun h => absurd h (by decide)) ?_
        refine Gq.done (by kernel_rfl) ?_
        refine Eq.end ?_
        refine Eq.next ?_
        refine Cq.region ?_
        refine Sq.move .plain rfl rfl ?_
        refine Sq.add .plain rfl rfl rfl (by omega) ?_
        refine Sq.assign .plain rfl rfl ?_
        refine Sq.nil ?_
        refine Eq.round _ _ ⟨i + 1, _, _, _, _, rfl, by omega, hB7, OwnRows.now ho62r, Own.snocB ho85, ⟨by simp; omega, by simp; omega, all_app hxl.2.2 (by omega)⟩, E, hB4, ho12, rfl⟩ (by omega) (.cons rfl (.cons rfl (.cons rfl (.cons rfl (.cons rfl (.nil))))))
      refine Sq.notF .plain rfl rfl ?_
      refine Sq.nil ?_
      refine Eq.next ?_
      refine Cq.thn rfl ?_
      refine Cq.seq ?_
      refine Cq.region ?_
      refine Sq.build st26 rfl rfl .plain rfl rfl one_nil rfl ?_
      refine Sq.storeAgg agg26 .plain rfl rfl (one_cons rfl (one_cons rfl (one_cons rfl one_nil))) hB4 rfl rfl (fun w91 g92 hB93 => ?_)
      have hs94 := World.grownBy.size g92
      replace E := E.grown g92 (fun k hk => by injection hk with hk; subst hk; omega)
      replace hB4 := hB93
      refine Sq.assign .plain rfl rfl ?_
      refine Sq.nil ?_
      refine Eq.next ?_
      refine Cq.ret ?_
      refine Eq.pastRet ?_
      refine Eq.outRet ?_
      refine Eq.pastRet ?_
      refine Eq.pastRet ?_
      refine Eq.outRet ?_
      refine Eq.pastRet ?_
      refine Eq.retCell2 rfl rfl agg26 hB4 rfl rfl ?_
      exact ⟨⟨_, _, zeroA, rfl, ⟨_, _, rfl, OwnRows.nil _ _ _ _ _, Own.nil _ _ _⟩, by refine ⟨?_, ?_, ?_, ?_⟩ <;> simp [zeroA], by simp [zeroA]⟩, E⟩
    refine Sq.nil ?_
    refine Eq.next ?_
    refine Cq.els rfl ?_
    refine Cq.exit ?_
    refine Eq.past ?_
    refine Eq.past ?_
    refine Eq.hit ?_
    refine Eq.next ?_
    refine Cq.seq ?_
    refine Cq.seq ?_
    refine Cq.region ?_
    refine Sq.loadAgg agg26 .plain rfl rfl hB7 rfl ?_
    have hd100 := hB4.lt
    have hd101 := hB7.lt
    refine Sq.call fn113 .plain rfl rfl (fmtA_c _ (⟨n21, xss, ys⟩ : A) _ _ (OwnRows.rows hor) (Own.row hoa)) ?_
    rintro _ w96 ⟨⟨s98, rfl, hs99⟩, e97⟩
    have hs102 := Below.size E
    have hs103 := Below.size e97
    replace E := E.trans e97
    replace hB4 := hB4.ext e97
    replace hB7 := hB7.ext e97
    replace hor := hor.ext e97
    replace hoa := hoa.ext e97
    refine Sq.move .plain rfl rfl ?_
    refine Sq.neqS .plain rfl rfl rfl ?_
    refine Sq.part (fun c104 => ?_) (fun c104 => ?_)
    · refine Sq.nil ?_
      refine Eq.next ?_
      refine Cq.thn rfl ?_
      refine Cq.seq ?_
      refine Cq.region ?_
      refine Sq.build st26 rfl rfl .plain rfl rfl one_nil rfl ?_
      refine Sq.storeAgg agg26 .plain rfl rfl (one_cons rfl (one_cons rfl (one_cons rfl one_nil))) hB4 rfl rfl (fun w105 g106 hB107 => ?_)
      have hs108 := World.grownBy.size g106
      replace E := E.grown g106 (fun k hk => by injection hk with hk; subst hk; omega)
      replace hB4 := hB107
      refine Sq.assign .plain rfl rfl ?_
      refine Sq.nil ?_
      refine Eq.next ?_
      refine Cq.ret ?_
      refine Eq.pastRet ?_
      refine Eq.retCell2 rfl rfl agg26 hB4 rfl rfl ?_
      exact ⟨⟨_, _, zeroA, rfl, ⟨_, _, rfl, OwnRows.nil _ _ _ _ _, Own.nil _ _ _⟩, by refine ⟨?_, ?_, ?_, ?_⟩ <;> simp [zeroA], by simp [zeroA]⟩, E⟩
    refine Sq.nil ?_
    refine Eq.next ?_
    refine Cq.els rfl ?_
    refine Cq.skip ?_
    refine Eq.next ?_
    refine Cq.seq ?_
    refine Cq.region ?_
    refine Sq.loadAgg agg26 .plain rfl rfl hB7 rfl ?_
    refine Sq.storeAgg agg26 .plain rfl rfl (one_cons rfl (one_cons (Rows.one (OwnRows.rows hor)) (one_cons (Row.one (Own.row hoa)) one_nil))) hB4 rfl rfl (fun w109 g110 hB111 => ?_)
    have hs112 := World.grownBy.size g110
    replace E := E.grown g110 (fun k hk => by injection hk with hk; subst hk; omega)
    replace hor := hor.stored g110 hB4 (by decide) (by decide)
    replace hoa := hoa.stored g110 hB4 (by decide)
    replace hB4 := hB111
    refine Sq.assign .plain rfl rfl ?_
    refine Sq.nil ?_
    refine Eq.next ?_
    refine Cq.ret ?_
    refine Eq.retCell2 rfl rfl agg26 hB4 rfl rfl ?_
    exact ⟨⟨_, _, ⟨n21, xss, ys⟩, rfl, ⟨_, _, rfl, OwnRows.now hor, hoa⟩, by refine ⟨?_, ?_, ?_, ?_⟩ <;> first | (show -1000 ≤ n21 ∧ n21 ≤ 1000; omega) | (show xss.length ≤ 200; omega) | (show ys.length ≤ 200; omega) | (intro row hr; have := hxl.2.2 row hr; omega), by show 0 ≤ n21 ∧ n21 ≤ 63; omega⟩, E⟩
  refine Sq.notF .plain rfl rfl ?_
  refine Sq.nil ?_
  refine Eq.next ?_
  refine Cq.thn rfl ?_
  refine Cq.seq ?_
  refine Cq.region ?_
  refine Sq.build st26 rfl rfl .plain rfl rfl one_nil rfl ?_
  refine Sq.storeAgg agg26 .plain rfl rfl (one_cons rfl (one_cons rfl (one_cons rfl one_nil))) hB4 rfl rfl (fun w113 g114 hB115 => ?_)
  have hs116 := World.grownBy.size g114
  replace E := E.grown g114 (fun k hk => by injection hk with hk; subst hk; omega)
  replace hB4 := hB115
  refine Sq.assign .plain rfl rfl ?_
  refine Sq.nil ?_
  refine Eq.next ?_
  refine Cq.ret ?_
  refine Eq.pastRet ?_
  refine Eq.retCell2 rfl rfl agg26 hB4 rfl rfl ?_
  exact ⟨⟨_, _, zeroA, rfl, ⟨_, _, rfl, OwnRows.nil _ _ _ _ _, Own.nil _ _ _⟩, by refine ⟨?_, ?_, ?_, ?_⟩ <;> simp [zeroA], by simp [zeroA]⟩, E⟩
set_option maxRecDepth 100000 in
theorem l3Texts_c (w0 : World) : Ret Try.prog 86 #[] w0 (fun v w => (∃ xs : List ByteArray, Own w w0.heap.size 9 v (xs.map Value.string) ∧ xs.length = 12 ∧ ∀ x ∈ xs, x.size ≤ 60) ∧ Ext w0 w) := by
  have E := Ext.refl w0
  refine Ret.of (args := []) Try.func86 rfl rfl rfl ?_
  rintro _ rfl
  show Cq _ _ _ _ [] _
  refine Cq.seq ?_
  refine Cq.region ?_
  refine Sq.assign .plain rfl rfl ?_
  refine Sq.nil ?_
  refine Eq.next ?_
  refine Cq.seq ?_
  refine Cq.region ?_
  refine Sq.lit sl91 rfl rfl .plain rfl rfl (one_cons rfl (one_cons rfl (one_cons rfl (one_cons rfl (one_cons rfl (one_cons rfl (one_cons rfl (one_cons rfl (one_cons rfl (one_cons rfl (one_cons rfl (one_cons rfl one_nil)))))))))))) (fun b1 w2 e3 hlo4 ho5 _ => ?_)
  replace ho5 := ho5 w0.heap.size (Nat.le_refl _)
  have hs7 := Below.size e3
  replace E := E.trans e3
  refine Sq.assign .plain rfl rfl ?_
  refine Sq.nil ?_
  refine Eq.next ?_
  refine Cq.ret ?_
  refine Eq.ret1 rfl rfl ?_
  exact ⟨⟨([(⟨#[97, 98, 32, 43, 49, 44, 48, 32, 45, 49, 44, 49]⟩ : ByteArray), (⟨#[97, 98, 32, 43, 48, 44, 49, 32, 43, 50, 44, 49, 32, 45, 50, 44, 50]⟩ : ByteArray), (⟨#[97, 99, 32, 43, 49, 44, 50, 32, 43, 49, 44, 50, 32, 45, 50, 44, 50]⟩ : ByteArray), (⟨#[98, 32, 43, 49, 32, 45, 49]⟩ : ByteArray), (⟨#[97, 98, 99, 32, 43, 49, 44, 48, 44, 50, 32, 43, 50, 44, 48, 44, 49, 32, 45, 50, 44, 50, 44, 50]⟩ : ByteArray), (⟨#[45, 32, 43]⟩ : ByteArray), (⟨#[45, 32, 45]⟩ : ByteArray), (⟨#[97, 32, 43, 49, 32, 45, 48]⟩ : ByteArray), (⟨#[97, 98, 32, 43, 48, 44, 49, 32, 45, 48, 44, 49]⟩ : ByteArray), (⟨#[98, 99, 32, 43, 49, 44, 50, 32, 43, 50, 44, 48, 32, 45, 50, 44, 50]⟩ : ByteArray), (⟨#[97, 98, 32, 43, 49, 44, 50, 32, 45, 49, 44, 51, 32, 43, 52, 44, 50, 32, 45, 49, 44, 51, 32, 43, 52, 44, 50]⟩ : ByteArray), (⟨#[97, 98, 99, 32, 43, 48, 44, 49, 44, 48, 32, 43, 48, 44, 49, 44, 50, 32, 45, 50, 44, 50, 44, 50]⟩ : ByteArray)] : List ByteArray), Own.mono ho5 (by omega), rfl, all_size (by decide)⟩, E⟩
set_option maxRecDepth 100000 in
theorem open_c (w0 : World) (e : TypeId) (a0 : Option Addr) (c0 : Nat) (cs : List UInt8) (hc : Bytes w0 e (.slice a0 cs.length c0) cs) (hcap : cs.length ≤ c0) : Ret Try.prog 41 #[Value.slice a0 cs.length c0] w0 (fun v w => (∃ rb bv bs, v = .pointer (some ⟨rb, 0, none⟩) ∧ w0.heap.size ≤ rb ∧ Blk w rb 88 [bv, .int .i64 0] ∧ Src w e bv bs rb ∧ bs.length ≤ 2000) ∧ Ext w0 w) := by
  have E := Ext.refl w0
  refine Ret.of (args := [Value.slice a0 cs.length c0]) Try.func41 rfl rfl rfl ?_
  rintro _ rfl
  show Cq _ _ _ _ [(0, Value.slice a0 cs.length c0)] _
  refine Cq.seq ?_
  refine Cq.region ?_
  refine Sq.assign .plain rfl rfl ?_
  refine Sq.nil ?_
  refine Eq.next ?_
  refine Cq.seq ?_
  refine Cq.seq ?_
  refine Cq.region ?_
  refine Sq.move .plain rfl rfl ?_
  refine Sq.lenBytes (hc.ext E) .plain rfl und22 rfl ?_
  refine Sq.gtr .plain rfl rfl rfl ?_
  refine Sq.part (fun c1 => ?_) (fun c1 => ?_)
  · refine Sq.nil ?_
    refine Eq.next ?_
    refine Cq.thn rfl ?_
    refine Cq.region ?_
    refine Sq.move .plain rfl rfl ?_
    refine Sq.cutBytes sl22 hc hcap (by omega) .plain rfl rfl rfl (fun bv0 hbv0 => ?_)
    refine Sq.assign .plain rfl rfl ?_
    refine Sq.nil ?_
    refine Eq.next ?_
    refine Cq.seq ?_
    refine Cq.region ?_
    refine Sq.move .plain rfl rfl ?_
    refine Sq.build st88 rfl rfl .plain rfl rfl (one_cons (Row.one (hbv0.ext E)) one_nil) rfl ?_
    refine Sq.box .plain rfl rfl (fun b2 w3 e4 hB5 hlo6 => ?_)
    have hd7 := Nat.le_trans (Below.size E) hlo6
    have hs8 := Below.size e4
    replace E := E.trans e4
    refine Sq.assign .plain rfl rfl ?_
    refine Sq.nil ?_
    refine Eq.next ?_
    refine Cq.ret ?_
    refine Eq.ret1 rfl rfl ?_
    exact ⟨⟨_, _, (cs.take (2000 : Int).toNat), rfl, by omega, hB5, Src.of hbv0 E (by omega), by rw [List.length_take]; omega⟩, E⟩
  refine Sq.nil ?_
  refine Eq.next ?_
  refine Cq.els rfl ?_
  refine Cq.skip ?_
  refine Eq.next ?_
  refine Cq.seq ?_
  refine Cq.region ?_
  refine Sq.move .plain rfl rfl ?_
  refine Sq.build st88 rfl rfl .plain rfl rfl (one_cons (Row.one (hc.ext E)) one_nil) rfl ?_
  refine Sq.box .plain rfl rfl (fun b9 w10 e11 hB12 hlo13 => ?_)
  have hd14 := Nat.le_trans (Below.size E) hlo13
  have hs15 := Below.size e11
  replace E := E.trans e11
  refine Sq.assign .plain rfl rfl ?_
  refine Sq.nil ?_
  refine Eq.next ?_
  refine Cq.ret ?_
  refine Eq.ret1 rfl rfl ?_
  exact ⟨⟨_, _, cs, rfl, by omega, hB12, Src.of hc E (by omega), by omega⟩, E⟩
set_option maxRecDepth 100000 in
theorem l3Draw_c (w0 : World) (rb : Nat) (bv : Value) (p : Int) (bs : List UInt8) (e0 : TypeId) (hR : Blk w0 rb 88 [bv, .int .i64 p]) (hb : Src w0 e0 bv bs rb) (hbl : bs.length ≤ 2000) (hp : 0 ≤ p ∧ p ≤ 500000000) : Ret Try.prog 42 #[Value.pointer (some ⟨rb, 0, none⟩)] w0 (fun v w => (∃ p', (p ≤ p' ∧ p' ≤ p + 300) ∧ Blk w rb 88 [bv, .int .i64 p'] ∧ w0.grownBy w (some rb)) ∧ ∃ a, RowsA w v a ∧ Small 200 a ∧ 0 ≤ a.al ∧ a.al ≤ 63) := by
  have G := World.grownBy.refl w0 (some rb)
  have hlt := hR.lt
  refine Ret.of (args := [Value.pointer (some ⟨rb, 0, none⟩)]) Try.func42 rfl rfl rfl ?_
  rintro _ rfl
  show Cq _ _ _ _ [(0, Value.pointer (some ⟨rb, 0, none⟩))] _
  refine Cq.seq ?_
  refine Cq.region ?_
  refine Sq.alloc zero26 .plain rfl (fun b1 w2 e3 hB4 hlo5 => ?_)
  have hd6 := Nat.lt_of_lt_of_le hR.lt hlo5
  have hd7 := Nat.le_trans (World.grownBy.size G) hlo5
  have hs8 := Below.size e3
  replace hR := hR.ext e3
  replace G := grown_trans G (Ext.to_grown e3 _)
  refine Sq.nil ?_
  refine Eq.next ?_
  refine Cq.seq ?_
  refine Cq.seq ?_
  refine Cq.region ?_
  refine Sq.move .plain rfl rfl ?_
  refine Sq.call fn43 .plain rfl rfl (pick_c _ _ _ _ _ _ hR (hb.go G) hbl (by omega) 3 (by omega)) ?_
  rintro _ w10 ⟨⟨p11, hp14, hB13, g12⟩, ⟨k15, rfl, hk16⟩⟩
  have hs17 := World.grownBy.size g12
  have hs18 := World.grownBy.size G
  have hs19 := World.grownBy.size g12
  replace G := grown_trans G g12
  replace hB4 := hB4.grown g12 (by intro h; injection h with h; omega)
  replace hR := hB13
  refine Sq.eql .plain rfl rfl rfl ?_
  refine Sq.part (fun c20 => ?_) (fun c20 => ?_)
  · refine Sq.nil ?_
    refine Eq.next ?_
    refine Cq.thn rfl ?_
    refine Cq.seq ?_
    refine Cq.region ?_
    refine Sq.move .plain rfl rfl ?_
    have hd28 := hR.lt
    have hd29 := hB4.lt
    refine Sq.call fn86 .plain rfl rfl (l3Texts_c _) ?_
    rintro v21 w22 ⟨⟨xs24, ho25, hl26, hxs27⟩, e23⟩
    have hs30 := World.grownBy.size G
    have hs31 := Below.size e23
    replace hR := hR.ext e23
    replace G := grown_trans G (Ext.to_grown e23 _)
    replace hB4 := hB4.ext e23
    refine Sq.call fn85 .plain rfl rfl (of_c _ _ _ _ _ _ hR (hb.go G) hbl (by omega) _ xs24 (Own.row ho25) (by first | omega | simp)) ?_
    rintro _ w33 ⟨⟨p34, hp37, hB36, g35⟩, ⟨s38, rfl, hm39⟩⟩
    have hs40 := World.grownBy.size g35
    have hs41 := World.grownBy.size G
    have hs42 := World.grownBy.size g35
    replace G := grown_trans G g35
    replace hB4 := hB4.grown g35 (by intro h; injection h with h; omega)
    replace hR := hB36
    have hd55 := hR.lt
    have hd56 := hB4.lt
    refine Sq.call fn84 .plain rfl rfl (parseA_c s38 (by have := hxs27 _ hm39; omega) _) ?_
    rintro _ w44 ⟨⟨u46, ok47, a48, rfl, ⟨nx49, ac50, rfl, hn51, ha52⟩, hsm53, hal54⟩, e45⟩
    have hs57 := World.grownBy.size G
    have hs58 := Below.size e45
    replace hR := hR.ext e45
    replace G := grown_trans G (Ext.to_grown e45 _)
    replace hB4 := hB4.ext e45
    refine Sq.move .plain rfl rfl ?_
    refine Sq.extract .plain rfl rfl rfl ?_
    refine Sq.extract .plain rfl rfl rfl ?_
    refine Sq.alloc zero26 .plain rfl (fun b59 w60 e61 hB62 hlo63 => ?_)
    have hd64 := Nat.lt_of_lt_of_le hR.lt hlo63
    have hd65 := Nat.le_trans (World.grownBy.size G) hlo63
    have hd66 := Nat.lt_of_lt_of_le hB4.lt hlo63
    have hs67 := Below.size e61
    replace hR := hR.ext e61
    replace G := grown_trans G (Ext.to_grown e61 _)
    replace hB4 := hB4.ext e61
    replace hn51 := hn51.ext e61
    replace ha52 := ha52.ext e61
    refine Sq.storeAgg agg26 .plain rfl rfl (one_cons rfl (one_cons (Rows.one (OwnRows.rows hn51)) (one_cons (Row.one (Own.row ha52)) one_nil))) hB62 rfl rfl (fun w68 g69 hB70 => ?_)
    have hs71 := World.grownBy.size g69
    replace hR := hR.grown g69 (by intro h; injection h with h; omega)
    replace G := grown_far G g69 (fun k hk => by injection hk with hk; subst hk; omega)
    replace hB4 := hB4.grown g69 (by intro h; injection h with h; omega)
    replace hn51 := hn51.stored g69 hB62 (by decide) (by decide)
    replace ha52 := ha52.stored g69 hB62 (by decide)
    replace hB62 := hB70
    refine Sq.assign .plain rfl rfl ?_
    refine Sq.nil ?_
    refine Eq.next ?_
    refine Cq.seq ?_
    refine Cq.region ?_
    refine Sq.move .plain rfl rfl ?_
    refine Sq.partB (fun c72 => ?_) (fun c72 => ?_)
    · refine Sq.nil ?_
      refine Eq.next ?_
      refine Cq.thn rfl ?_
      refine Cq.seq ?_
      refine Cq.region ?_
      refine Sq.loadAgg agg26 .plain rfl rfl hB62 rfl ?_
      refine Sq.storeAgg agg26 .plain rfl rfl (one_cons rfl (one_cons (Rows.one (OwnRows.rows hn51)) (one_cons (Row.one (Own.row ha52)) one_nil))) hB4 rfl rfl (fun w73 g74 hB75 => ?_)
      have hs76 := World.grownBy.size g74
      replace hR := hR.grown g74 (by intro h; injection h with h; omega)
      replace G := grown_far G g74 (fun k hk => by injection hk with hk; subst hk; omega)
      replace hn51 := hn51.stored g74 hB4 (by decide) (by decide)
      replace ha52 := ha52.stored g74 hB4 (by decide)
      replace hB4 := hB75
      refine Sq.nil ?_
      refine Eq.next ?_
      refine Cq.ret ?_
      refine Eq.pastRet ?_
      refine Eq.retCell rfl rfl agg26 hB4 rfl ?_
      exact ⟨⟨_, by omega, hR, G⟩, _, ⟨_, _, rfl, (OwnRows.rows hn51), (Own.row ha52)⟩, by first | exact (Small.of hsm53).mono (by omega) | exact Small.mono hsm53 (by omega) | exact (Small.of hsm53).mono (by omega) | exact Small.mono hsm53 (by omega), by omega⟩
    refine Sq.nil ?_
    refine Eq.next ?_
    refine Cq.els rfl ?_
    refine Cq.skip ?_
    refine Eq.next ?_
    refine Cq.seq ?_
    refine Cq.region ?_
    refine Sq.move .plain rfl rfl ?_
    refine Sq.move .plain rfl rfl ?_
    refine Sq.lit sl56 rfl rfl .plain rfl rfl (one_cons rfl (one_cons rfl (one_cons rfl (one_cons rfl (one_cons rfl (one_cons rfl (one_cons rfl one_nil))))))) (fun b77 w78 e79 hlo80 ho81 _ => ?_)
    replace ho81 := ho81 w68.heap.size (Nat.le_refl _)
    have hs83 := Below.size e79
    replace hR := hR.ext e79
    replace G := grown_trans G (Ext.to_grown e79 _)
    replace hB4 := hB4.ext e79
    refine Sq.call fn47 .plain rfl rfl (num_c _ _ _ _ _ _ hR (hb.go G) hbl (by omega) _ [3, 6, 7, 5, 1, 0, 2] (Own.row ho81) (by simp)) ?_
    rintro _ w85 ⟨⟨p86, hp89, hB88, g87⟩, ⟨k90, rfl, hm91⟩⟩
    have hs92 := World.grownBy.size g87
    have hs93 := World.grownBy.size G
    have hs94 := World.grownBy.size g87
    replace G := grown_trans G g87
    replace hB4 := hB4.grown g87 (by intro h; injection h with h; omega)
    replace hR := hB88
    simp only [List.mem_cons, List.not_mem_nil, or_false] at hm91
    refine Sq.call fn87 .plain rfl rfl (l3Over_c _ _ _ _ _ _ hR (hb.go G) hbl (by omega) k90 (by omega)) ?_
    rintro _ w96 ⟨⟨p97, hp100, hB99, g98⟩, ⟨a101, ⟨nx102, ac103, rfl, hn104, ha105⟩, hv106, hal107⟩⟩
    have hs108 := World.grownBy.size g98
    have hs109 := World.grownBy.size G
    have hs110 := World.grownBy.size g98
    replace G := grown_trans G g98
    replace hB4 := hB4.grown g98 (by intro h; injection h with h; omega)
    replace hR := hB99
    refine Sq.storeAgg agg26 .plain rfl rfl (one_cons rfl (one_cons (Rows.one (OwnRows.rows hn104)) (one_cons (Row.one (Own.row ha105)) one_nil))) hB4 rfl rfl (fun w111 g112 hB113 => ?_)
    have hs114 := World.grownBy.size g112
    replace hR := hR.grown g112 (by intro h; injection h with h; omega)
    replace G := grown_far G g112 (fun k hk => by injection hk with hk; subst hk; omega)
    replace hn104 := hn104.stored g112 hB4 (by decide) (by decide)
    replace ha105 := ha105.stored g112 hB4 (by decide)
    replace hB4 := hB113
    refine Sq.nil ?_
    refine Eq.next ?_
    refine Cq.ret ?_
    refine Eq.retCell rfl rfl agg26 hB4 rfl ?_
    exact ⟨⟨_, by omega, hR, G⟩, _, ⟨_, _, rfl, (OwnRows.rows hn104), (Own.row ha105)⟩, by first | exact (Small.of hv106).mono (by omega) | exact Small.mono hv106 (by omega) | exact (Small.of hsm53).mono (by omega) | exact Small.mono hsm53 (by omega) | exact (Small.of hsm53).mono (by omega) | exact Small.mono hsm53 (by omega), by omega⟩
  refine Sq.nil ?_
  refine Eq.next ?_
  refine Cq.els rfl ?_
  refine Cq.skip ?_
  refine Eq.next ?_
  refine Cq.seq ?_
  refine Cq.region ?_
  refine Sq.move .plain rfl rfl ?_
  refine Sq.move .plain rfl rfl ?_
  refine Sq.lit sl56 rfl rfl .plain rfl rfl (one_cons rfl (one_cons rfl (one_cons rfl (one_cons rfl (one_cons rfl (one_cons rfl (one_cons rfl one_nil))))))) (fun b115 w116 e117 hlo118 ho119 _ => ?_)
  replace ho119 := ho119 w10.heap.size (Nat.le_refl _)
  have hs121 := Below.size e117
  replace hR := hR.ext e117
  replace G := grown_trans G (Ext.to_grown e117 _)
  replace hB4 := hB4.ext e117
  refine Sq.call fn47 .plain rfl rfl (num_c _ _ _ _ _ _ hR (hb.go G) hbl (by omega) _ [3, 6, 7, 5, 1, 0, 2] (Own.row ho119) (by simp)) ?_
  rintro _ w123 ⟨⟨p124, hp127, hB126, g125⟩, ⟨k128, rfl, hm129⟩⟩
  have hs130 := World.grownBy.size g125
  have hs131 := World.grownBy.size G
  have hs132 := World.grownBy.size g125
  replace G := grown_trans G g125
  replace hB4 := hB4.grown g125 (by intro h; injection h with h; omega)
  replace hR := hB126
  simp only [List.mem_cons, List.not_mem_nil, or_false] at hm129
  refine Sq.call fn87 .plain rfl rfl (l3Over_c _ _ _ _ _ _ hR (hb.go G) hbl (by omega) k128 (by omega)) ?_
  rintro _ w134 ⟨⟨p135, hp138, hB137, g136⟩, ⟨a139, ⟨nx140, ac141, rfl, hn142, ha143⟩, hv144, hal145⟩⟩
  have hs146 := World.grownBy.size g136
  have hs147 := World.grownBy.size G
  have hs148 := World.grownBy.size g136
  replace G := grown_trans G g136
  replace hB4 := hB4.grown g136 (by intro h; injection h with h; omega)
  replace hR := hB137
  refine Sq.storeAgg agg26 .plain rfl rfl (one_cons rfl (one_cons (Rows.one (OwnRows.rows hn142)) (one_cons (Row.one (Own.row ha143)) one_nil))) hB4 rfl rfl (fun w149 g150 hB151 => ?_)
  have hs152 := World.grownBy.size g150
  replace hR := hR.grown g150 (by intro h; injection h with h; omega)
  replace G := grown_far G g150 (fun k hk => by injection hk with hk; subst hk; omega)
  replace hn142 := hn142.stored g150 hB4 (by decide) (by decide)
  replace ha143 := ha143.stored g150 hB4 (by decide)
  replace hB4 := hB151
  refine Sq.nil ?_
  refine Eq.next ?_
  refine Cq.ret ?_
  refine Eq.retCell rfl rfl agg26 hB4 rfl ?_
  exact ⟨⟨_, by omega, hR, G⟩, _, ⟨_, _, rfl, (OwnRows.rows hn142), (Own.row ha143)⟩, by first | exact (Small.of hv144).mono (by omega) | exact Small.mono hv144 (by omega) | exact (Small.of hv106).mono (by omega) | exact Small.mono hv106 (by omega) | exact (Small.of hsm53).mono (by omega) | exact Small.mono hsm53 (by omega) | exact (Small.of hsm53).mono (by omega) | exact Small.mono hsm53 (by omega), by omega⟩
end Go.Proofs.Ytdejmfkpohgamaa
set_option linter.unusedSimpArgs false
set_option linter.unusedVariables false
namespace Go.Proofs.Ytdejmfkpohgamaa
open Go.RowKit
set_option maxRecDepth 100000 in
theorem l4Change_c (w0 : World) (rb : Nat) (bv : Value) (p : Int) (bs : List UInt8) (e0 : TypeId) (hR : Blk w0 rb 88 [bv, .int .i64 p]) (hb : Src w0 e0 bv bs rb) (hbl : bs.length ≤ 2000) (hp : 0 ≤ p ∧ p ≤ 700000000) (a : A) (nx ac : Value) (hnx : Rows w0 56 3 nx a.next) (hac : Bools w0 4 ac a.acc) (N : Nat) (hN : N ≤ 1000) (hsm : Small N a) : Ret Try.prog 44 #[Value.pointer (some ⟨rb, 0, none⟩), Value.agg #[Value.int .i64 a.al, nx, ac]] w0 (fun v w => (∃ p', (p ≤ p' ∧ p' ≤ p + 10) ∧ Blk w rb 88 [bv, .int .i64 p'] ∧ w0.grownBy w (some rb)) ∧ ∃ a', RowsA w v a' ∧ Small (N + 20) a') := by
  have G := World.grownBy.refl w0 (some rb)
  have hlt := hR.lt
  have hsm1 := hsm.2.1
  have hsm2 := hsm.2.2.1
  refine Ret.of (args := [Value.pointer (some ⟨rb, 0, none⟩), Value.agg #[Value.int .i64 a.al, nx, ac]]) Try.func44 rfl rfl rfl ?_
  rintro _ rfl
  show Cq _ _ _ _ [(0, Value.pointer (some ⟨rb, 0, none⟩)), (1, Value.agg #[Value.int .i64 a.al, nx, ac])] _
  refine Cq.seq ?_
  refine Cq.region ?_
  refine Sq.box .plain rfl rfl (fun b1 w2 e3 hB4 hlo5 => ?_)
  have hd6 := Nat.lt_of_lt_of_le hR.lt hlo5
  have hd7 := Nat.le_trans (World.grownBy.size G) hlo5
  have hs8 := Below.size e3
  replace hR := hR.ext e3
  replace G := grown_trans G (Ext.to_grown e3 _)
  replace hnx := hnx.ext e3
  replace hac := hac.ext e3
  refine Sq.alloc zero26 .plain rfl (fun b9 w10 e11 hB12 hlo13 => ?_)
  have hd14 := Nat.lt_of_lt_of_le hR.lt hlo13
  have hd15 := Nat.le_trans (World.grownBy.size G) hlo13
  have hd16 := Nat.lt_of_lt_of_le hB4.lt hlo13
  have hs17 := Below.size e11
  replace hR := hR.ext e11
  replace G := grown_trans G (Ext.to_grown e11 _)
  replace hnx := hnx.ext e11
  replace hac := hac.ext e11
  replace hB4 := hB4.ext e11
  refine Sq.nil ?_
  refine Eq.next ?_
  refine Cq.seq ?_
  refine Cq.region ?_
  refine Sq.loadAgg agg26 .plain rfl rfl hB4 rfl ?_
  have hd25 := hR.lt
  have hd26 := hB4.lt
  have hd27 := hB12.lt
  refine Sq.call fn88 .plain rfl rfl (l3Copy_c _ a _ _ hnx hac (hsm.fit (by omega))) ?_
  rintro _ w19 ⟨⟨nx21, ac22, rfl, hn23, ha24⟩, e20⟩
  have hs28 := World.grownBy.size G
  have hs29 := Below.size e20
  replace hR := hR.ext e20
  replace G := grown_trans G (Ext.to_grown e20 _)
  replace hB4 := hB4.ext e20
  replace hB12 := hB12.ext e20
  refine Sq.alloc zero26 .plain rfl (fun b30 w31 e32 hB33 hlo34 => ?_)
  have hd35 := Nat.lt_of_lt_of_le hR.lt hlo34
  have hd36 := Nat.le_trans (World.grownBy.size G) hlo34
  have hd37 := Nat.lt_of_lt_of_le hB4.lt hlo34
  have hd38 := Nat.lt_of_lt_of_le hB12.lt hlo34
  have hs39 := Below.size e32
  replace hR := hR.ext e32
  replace G := grown_trans G (Ext.to_grown e32 _)
  replace hB12 := hB12.ext e32
  replace hn23 := hn23.ext e32
  replace ha24 := ha24.ext e32
  refine Sq.storeAgg agg26 .plain rfl rfl (one_cons rfl (one_cons (Rows.one (OwnRows.rows hn23)) (one_cons (Row.one (Own.row ha24)) one_nil))) hB33 rfl rfl (fun w40 g41 hB42 => ?_)
  have hs43 := World.grownBy.size g41
  replace hR := hR.grown g41 (by intro h; injection h with h; omega)
  replace G := grown_far G g41 (fun k hk => by injection hk with hk; subst hk; omega)
  replace hB12 := hB12.grown g41 (by intro h; injection h with h; omega)
  replace hn23 := hn23.stored g41 hB33 (by decide) (by decide)
  replace ha24 := ha24.stored g41 hB33 (by decide)
  replace hB33 := hB42
  refine Sq.nil ?_
  refine Eq.next ?_
  refine Cq.seq ?_
  refine Cq.region ?_
  refine Sq.fieldAddr fld26_1 .plain rfl rfl ?_
  refine Sq.loadB one23 .plain rfl rfl hB33 rfl ?_
  refine Sq.lenRows (OwnRows.rows hn23) .plain rfl und23 rfl ?_
  refine Sq.assign .plain rfl rfl ?_
  refine Sq.nil ?_
  refine Eq.next ?_
  refine Cq.seq ?_
  refine Cq.seq ?_
  refine Cq.region ?_
  refine Sq.move .plain rfl rfl ?_
  refine Sq.eql .plain rfl rfl rfl ?_
  refine Sq.part (fun c44 => ?_) (fun c44 => ?_)
  · refine Sq.nil ?_
    refine Eq.next ?_
    refine Cq.thn rfl ?_
    refine Cq.seq ?_
    refine Cq.region ?_
    refine Sq.loadAgg agg26 .plain rfl rfl hB33 rfl ?_
    refine Sq.storeAgg agg26 .plain rfl rfl (one_cons rfl (one_cons (Rows.one (OwnRows.rows hn23)) (one_cons (Row.one (Own.row ha24)) one_nil))) hB12 rfl rfl (fun w45 g46 hB47 => ?_)
    have hs48 := World.grownBy.size g46
    replace hR := hR.grown g46 (by intro h; injection h with h; omega)
    replace G := grown_far G g46 (fun k hk => by injection hk with hk; subst hk; omega)
    replace hn23 := hn23.stored g46 hB12 (by decide) (by decide)
    replace ha24 := ha24.stored g46 hB12 (by decide)
    replace hB12 := hB47
    refine Sq.nil ?_
    refine Eq.next ?_
    refine Cq.ret ?_
    refine Eq.pastRet ?_
    refine Eq.retCell rfl rfl agg26 hB12 rfl ?_
    exact ⟨⟨_, by omega, hR, G⟩, a, ⟨_, _, rfl, (OwnRows.rows hn23), (Own.row ha24)⟩, hsm.mono (by omega)⟩
  refine Sq.nil ?_
  refine Eq.next ?_
  refine Cq.els rfl ?_
  refine Cq.skip ?_
  refine Eq.next ?_
  refine Cq.seq ?_
  refine Cq.region ?_
  refine Sq.move .plain rfl rfl ?_
  refine Sq.move .plain rfl rfl ?_
  refine Sq.call fn43 .plain rfl rfl (pick_c _ _ _ _ _ _ hR (hb.go G) hbl (by omega) (List.length a.next : Int) (by omega)) ?_
  rintro _ w50 ⟨⟨p51, hp54, hB53, g52⟩, ⟨k55, rfl, hk56⟩⟩
  have hs57 := World.grownBy.size g52
  have hs58 := World.grownBy.size G
  have hs59 := World.grownBy.size g52
  replace G := grown_trans G g52
  replace hB12 := hB12.grown g52 (by intro h; injection h with h; omega)
  replace hn23 := hn23.stored g52 hR (by decide) (by decide)
  replace ha24 := ha24.stored g52 hR (by decide)
  replace hB33 := hB33.grown g52 (by intro h; injection h with h; omega)
  replace hR := hB53
  refine Sq.assign .plain rfl rfl ?_
  refine Sq.nil ?_
  refine Eq.next ?_
  refine Cq.seq ?_
  refine Cq.seq ?_
  refine Cq.region ?_
  refine Sq.move .plain rfl rfl ?_
  refine Sq.call fn43 .plain rfl rfl (pick_c _ _ _ _ _ _ hR (hb.go G) hbl (by omega) 4 (by omega)) ?_
  rintro _ w61 ⟨⟨p62, hp65, hB64, g63⟩, ⟨k66, rfl, hk67⟩⟩
  have hs68 := World.grownBy.size g63
  have hs69 := World.grownBy.size G
  have hs70 := World.grownBy.size g63
  replace G := grown_trans G g63
  replace hB12 := hB12.grown g63 (by intro h; injection h with h; omega)
  replace hn23 := hn23.stored g63 hR (by decide) (by decide)
  replace ha24 := ha24.stored g63 hR (by decide)
  replace hB33 := hB33.grown g63 (by intro h; injection h with h; omega)
  replace hR := hB64
  refine Sq.nil ?_
  refine Eq.next ?_
  refine Cq.block ?_
  refine Cq.seq ?_
  refine Cq.region ?_
  refine Sq.eql .plain rfl rfl rfl ?_
  refine Sq.part (fun c71 => ?_) (fun c71 => ?_)
  · refine Sq.assign .plain rfl rfl ?_
    refine Sq.nil ?_
    refine Eq.next ?_
    refine Cq.thn rfl ?_
    refine Cq.seq ?_
    refine Cq.region ?_
    have hrowk := hsm.rowAt (k := k55.toNat)
    refine Sq.fieldAddr fld26_2 .plain rfl rfl ?_
    refine Sq.loadB one24 .plain rfl rfl hB33 rfl ?_
    refine Sq.lenBools (Own.row ha24) .plain rfl und24 rfl ?_
    refine Sq.move .plain rfl rfl ?_
    refine Sq.gtr .plain rfl rfl rfl ?_
    refine Sq.part (fun c72 => ?_) (fun c72 => ?_)
    · refine Sq.nil ?_
      refine Eq.next ?_
      refine Cq.thn rfl ?_
      refine Cq.draw 9 none mixed (fun w73 e74 => ?_)
      have hs75 := Below.size e74
      replace hR := hR.ext e74
      replace G := grown_trans G (Ext.to_grown e74 _)
      replace hB12 := hB12.ext e74
      replace hn23 := hn23.ext e74
      replace ha24 := ha24.ext e74
      replace hB33 := hB33.ext e74
      have ha24_w73 := ha24
      have hB33_w73 := hB33
      refine Gq.st 0 rfl (by kernel_rfl) rfl .plain rfl (fun _ _ _ h => h) (World.grownBy.refl w73 _) (fun w' x => Still.fieldAddr fld26_2 rfl) ?_
      refine Gq.st 1 rfl (by kernel_rfl) rfl .plain rfl (fun _ _ _ h => h) (World.grownBy.refl w73 _) (fun w' x => Still.loadB one24 rfl (hB33_w73.ext (Ext.of_grown x)) rfl) ?_
      refine Gq.st 2 rfl (by kernel_rfl) rfl .plain rfl (fun _ _ _ h => h) (World.grownBy.refl w73 _) (fun w' x => Still.move rfl) ?_
      refine Gq.st 3 rfl (by kernel_rfl) rfl .plain rfl (fun _ _ _ h => h) (World.grownBy.refl w73 _) (fun w' x => Still.fieldAddr fld26_2 rfl) ?_
      refine Gq.st 4 rfl (by kernel_rfl) rfl .plain rfl (fun _ _ _ h => h) (World.grownBy.refl w73 _) (fun w' x => Still.loadB one24 rfl (hB33_w73.ext (Ext.of_grown x)) rfl) ?_
      refine Gq.st 5 rfl (by kernel_rfl) rfl .plain rfl (fun _ _ _ h => h) (World.grownBy.refl w73 _) (fun w' x => Still.move rfl) ?_
      obtain ⟨p76, hp77_w73⟩ := Bools.at (Own.row ha24_w73) (i := k55) (by omega) (by omega)
      have hp77o := AtO.of ha24_w73 hp77_w73
      refine Gq.st 6 rfl (by kernel_rfl) rfl .plain rfl (fun _ _ _ h => h) (World.grownBy.refl w73 _) (fun w' x => Still.at' sl24 hp77_w73 rfl rfl) ?_
      refine Gq.st 7 rfl (by kernel_rfl) rfl .plain rfl (fun _ _ _ h => h) (World.grownBy.refl w73 _) (fun w' x => Still.loadA one4 rfl (hp77_w73.ext (Ext.of_grown x)).1) ?_
      refine Gq.st 8 rfl (by kernel_rfl) rfl .plain rfl (fun _ _ _ h => h) (World.grownBy.refl w73 _) (fun w' x => Still.not rfl) ?_
      refine Gq.one 9 rfl (by kernel_rfl) ?_
      obtain ⟨p78, hp79o⟩ := Own.at ha24 (i := k55) (by omega) (by first | (simp only [List.length_map]; omega) | (simp; omega))
      refine Sq.atO sl24 hp79o .plain rfl rfl rfl ?_
      refine Sq.nil ?_
      refine Eq.goes (fun h => absurd h (by decide)) ?_
      refine Gq.one 10 rfl (by kernel_rfl) ?_
      refine Sq.storeO one4 ha24 hp79o .plain rfl rfl rfl (fun w80 g81 ho82 => ?_)
      have hs83 := World.grownBy.size g81
      replace hR := hR.owned ha24 g81 (by decide)
      replace G := grown_new G ha24 g81 (by omega)
      replace hB12 := hB12.owned ha24 g81 (by decide)
      replace hn23 := hn23.owned ha24 g81 (by decide) (by decide)
      replace hB33 := hB33.owned ha24 g81 (by decide)
      replace ha24 := ho82
      refine Sq.nil ?_
      refine Eq.goes (fun h => absurd h (by decide)) ?_
      refine Gq.done (by kernel_rfl) ?_
      refine Eq.end ?_
      refine Eq.next ?_
      refine Cq.seq ?_
      refine Cq.region ?_
      refine Sq.loadAgg agg26 .plain rfl rfl hB33 rfl ?_
      refine Sq.storeAgg agg26 .plain rfl rfl (one_cons rfl (one_cons (Rows.one (OwnRows.rows hn23)) (one_cons (Row.one (Own.row ha24)) one_nil))) hB12 rfl rfl (fun w84 g85 hB86 => ?_)
      have hs87 := World.grownBy.size g85
      replace hR := hR.grown g85 (by intro h; injection h with h; omega)
      replace G := grown_far G g85 (fun k hk => by injection hk with hk; subst hk; omega)
      replace hn23 := hn23.stored g85 hB12 (by decide) (by decide)
      replace ha24 := ha24.stored g85 hB12 (by decide)
      replace hB12 := hB86
      refine Sq.nil ?_
      refine Eq.next ?_
      refine Cq.ret ?_
      refine Eq.retCell rfl rfl agg26 hB12 rfl ?_
      exact ⟨⟨_, by omega, hR, G⟩, ⟨a.al, a.next, a.acc.set k55.toNat (!(a.acc.getD k55.toNat false))⟩, ⟨_, _, rfl, (OwnRows.rows hn23), (Own.row (Own.setB ha24))⟩, hsm.accs (by omega) (List.length_set ..)⟩
    refine Sq.nil ?_
    refine Eq.next ?_
    refine Cq.els rfl ?_
    refine Cq.skip ?_
    refine Eq.end ?_
    refine Eq.next ?_
    refine Cq.seq ?_
    refine Cq.region ?_
    refine Sq.loadAgg agg26 .plain rfl rfl hB33 rfl ?_
    refine Sq.storeAgg agg26 .plain rfl rfl (one_cons rfl (one_cons (Rows.one (OwnRows.rows hn23)) (one_cons (Row.one (Own.row ha24)) one_nil))) hB12 rfl rfl (fun w88 g89 hB90 => ?_)
    have hs91 := World.grownBy.size g89
    replace hR := hR.grown g89 (by intro h; injection h with h; omega)
    replace G := grown_far G g89 (fun k hk => by injection hk with hk; subst hk; omega)
    replace hn23 := hn23.stored g89 hB12 (by decide) (by decide)
    replace ha24 := ha24.stored g89 hB12 (by decide)
    replace hB12 := hB90
    refine Sq.nil ?_
    refine Eq.next ?_
    refine Cq.ret ?_
    refine Eq.retCell rfl rfl agg26 hB12 rfl ?_
    exact ⟨⟨_, by omega, hR, G⟩, a, ⟨_, _, rfl, (OwnRows.rows hn23), (Own.row ha24)⟩, hsm.mono (by omega)⟩
  refine Sq.assign .plain rfl rfl ?_
  refine Sq.nil ?_
  refine Eq.next ?_
  refine Cq.els rfl ?_
  refine Cq.seq ?_
  refine Cq.region ?_
  have hrowk := hsm.rowAt (k := k55.toNat)
  refine Sq.eql .plain rfl rfl rfl ?_
  refine Sq.part (fun c92 => ?_) (fun c92 => ?_)
  · refine Sq.assign .plain rfl rfl ?_
    refine Sq.nil ?_
    refine Eq.next ?_
    refine Cq.thn rfl ?_
    refine Cq.seq ?_
    refine Cq.region ?_
    refine Sq.fieldAddr fld26_1 .plain rfl rfl ?_
    refine Sq.loadB one23 .plain rfl rfl hB33 rfl ?_
    refine Sq.move .plain rfl rfl ?_
    refine Sq.idxRows sl23 one56 (OwnRows.rows hn23) .plain rfl rfl rfl .plain rfl rfl (by omega) (by omega) (fun r93 hr94 => ?_)
    refine Sq.lenInts hr94 .plain rfl und56 rfl ?_
    refine Sq.gtr .plain rfl rfl rfl ?_
    refine Sq.part (fun c95 => ?_) (fun c95 => ?_)
    · refine Sq.nil ?_
      refine Eq.next ?_
      refine Cq.thn rfl ?_
      obtain ⟨pA, rA, hpA, _⟩ := Rows.at (OwnRows.rows hn23) (i := k55) (by omega) (by omega)
      have hrA := (OwnRows.rowAt hn23 hpA).1
      obtain ⟨_, hoA, _, _⟩ := OwnRows.open hn23 (by decide)
      have hpAo := AtO.of hoA hpA
      refine Cq.drawS 16 (fun w' => Blk w' b30 26 [Value.int .i64 a.al, nx21, ac22] ∧ At w' 56 nx21 k55 pA rA) mixed (⟨hB33, hpA⟩) (fun w96 e97 hS => ?_)
      clear hS
      have hs98 := Below.size e97
      replace hR := hR.ext e97
      replace G := grown_trans G (Ext.to_grown e97 _)
      replace hB12 := hB12.ext e97
      replace hn23 := hn23.ext e97
      replace ha24 := ha24.ext e97
      replace hB33 := hB33.ext e97
      replace hpA := hpA.ext e97
      replace hrA := hrA.ext e97
      refine Gq.st 0 rfl (by kernel_rfl) rfl .plain rfl (fun _ _ _ h => h) ⟨hB33, hpA⟩ (fun w' x => Still.fieldAddr fld26_1 rfl) ?_
      refine Gq.st 1 rfl (by kernel_rfl) rfl .plain rfl (fun _ _ _ h => h) ⟨hB33, hpA⟩ (fun w' x => Still.loadB one23 rfl x.1 rfl) ?_
      refine Gq.st 2 rfl (by kernel_rfl) rfl .plain rfl (fun _ _ _ h => h) ⟨hB33, hpA⟩ (fun w' x => Still.move rfl) ?_
      refine Gq.st 3 rfl (by kernel_rfl) rfl .plain rfl (fun _ _ _ h => h) ⟨hB33, hpA⟩ (fun w' x => Still.at' sl23 hpA rfl rfl) ?_
      refine Gq.st 4 rfl (by kernel_rfl) rfl .plain rfl (fun _ _ _ h => h) ⟨hB33, hpA⟩ (fun w' x => Still.loadA one56 rfl (x.2).1) ?_
      refine Gq.st 5 rfl (by kernel_rfl) rfl .plain rfl (fun _ _ _ h => h) ⟨hB33, hpA⟩ (fun w' x => Still.move rfl) ?_
      refine Gq.st 6 rfl (by kernel_rfl) rfl .plain rfl (fun _ _ _ h => h) ⟨hB33, hpA⟩ (fun w' x => Still.fieldAddr fld26_1 rfl) ?_
      refine Gq.st 7 rfl (by kernel_rfl) rfl .plain rfl (fun _ _ _ h => h) ⟨hB33, hpA⟩ (fun w' x => Still.loadB one23 rfl x.1 rfl) ?_
      refine Gq.st 8 rfl (by kernel_rfl) rfl .plain rfl (fun _ _ _ h => h) ⟨hB33, hpA⟩ (fun w' x => Still.move rfl) ?_
      refine Gq.st 9 rfl (by kernel_rfl) rfl .plain rfl (fun _ _ _ h => h) ⟨hB33, hpA⟩ (fun w' x => Still.at' sl23 hpA rfl rfl) ?_
      refine Gq.st 10 rfl (by kernel_rfl) rfl .plain rfl (fun _ _ _ h => h) ⟨hB33, hpA⟩ (fun w' x => Still.loadA one56 rfl (x.2).1) ?_
      refine Gq.st 13 rfl (by kernel_rfl) rfl .plain rfl (fun _ _ _ h => h) ⟨hB33, hpA⟩ (fun w' x => Still.move rfl) ?_
      refine Gq.st 14 rfl (by kernel_rfl) rfl .plain rfl (fun _ _ _ h => h) ⟨hB33, hpA⟩ (fun w' x => Still.move rfl) ?_
      refine Gq.one 11 rfl (by kernel_rfl) ?_
      refine Sq.lenInts (Own.row hrA) .plain rfl und56 rfl ?_
      refine Sq.nil ?_
      refine Eq.goes (fun _ => ⟨hB33, hpA⟩) ?_
      refine Gq.one 12 rfl (by kernel_rfl) ?_
      refine Sq.call fn43 .plain rfl rfl (pick_c _ _ _ _ _ _ hR (hb.go G) hbl (by omega) ((List.length (a.next.getD k55.toNat []) : Int)) (by omega)) ?_
      rintro _ w100 ⟨⟨p101, hp104, hB103, g102⟩, ⟨k105, rfl, hk106⟩⟩
      have hs107 := World.grownBy.size g102
      have hs108 := World.grownBy.size G
      have hs109 := World.grownBy.size g102
      replace G := grown_trans G g102
      replace hB12 := hB12.grown g102 (by intro h; injection h with h; omega)
      replace hn23 := hn23.stored g102 hR (by decide) (by decide)
      replace ha24 := ha24.stored g102 hR (by decide)
      replace hB33 := hB33.grown g102 (by intro h; injection h with h; omega)
      replace hpA := hpA.stored g102 hR (by decide)
      replace hrA := hrA.stored g102 hR (by decide)
      replace hR := hB103
      refine Sq.nil ?_
      refine Eq.goes (fun _ => ⟨hB33, hpA⟩) ?_
      refine Gq.one 15 rfl (by kernel_rfl) ?_
      refine Sq.call fn43 .plain rfl rfl (pick_c _ _ _ _ _ _ hR (hb.go G) hbl (by omega) (List.length a.next : Int) (by omega)) ?_
      rintro _ w111 ⟨⟨p112, hp115, hB114, g113⟩, ⟨k116, rfl, hk117⟩⟩
      have hs118 := World.grownBy.size g113
      have hs119 := World.grownBy.size G
      have hs120 := World.grownBy.size g113
      replace G := grown_trans G g113
      replace hB12 := hB12.grown g113 (by intro h; injection h with h; omega)
      replace hn23 := hn23.stored g113 hR (by decide) (by decide)
      replace ha24 := ha24.stored g113 hR (by decide)
      replace hB33 := hB33.grown g113 (by intro h; injection h with h; omega)
      replace hpA := hpA.stored g113 hR (by decide)
      replace hrA := hrA.stored g113 hR (by decide)
      replace hR := hB114
      refine Sq.nil ?_
      refine Eq.goes (fun _ => ⟨hB33, hpA⟩) ?_
      refine Gq.one 16 rfl (by kernel_rfl) ?_
      obtain ⟨p121, hp122o⟩ := Own.at hrA (i := k105) (by omega) (by first | (simp only [List.length_map]; omega) | (simp; omega))
      refine Sq.atO sl56 hp122o .plain rfl rfl rfl ?_
      refine Sq.nil ?_
      refine Eq.goes (fun h => absurd h (by decide)) ?_
      refine Gq.one 17 rfl (by kernel_rfl) ?_
      refine Sq.storeO one3 hrA hp122o .plain rfl rfl rfl (fun w123 g124 ho125 => ?_)
      have hs126 := World.grownBy.size g124
      rw [← List.map_set] at ho125
      replace hn23 := (OwnRows.set hn23 (by decide) hpA ho125 g124).1
      replace hR := hR.owned hrA g124 (by decide)
      replace G := grown_new G hrA g124 (by omega)
      replace hB12 := hB12.owned hrA g124 (by decide)
      replace ha24 := ha24.owned hrA g124 (by decide)
      replace hB33 := hB33.owned hrA g124 (by decide)
      refine Sq.nil ?_
      refine Eq.goes (fun h => absurd h (by decide)) ?_
      refine Gq.done (by kernel_rfl) ?_
      refine Eq.end ?_
      refine Eq.next ?_
      refine Cq.seq ?_
      refine Cq.region ?_
      refine Sq.loadAgg agg26 .plain rfl rfl hB33 rfl ?_
      refine Sq.storeAgg agg26 .plain rfl rfl (one_cons rfl (one_cons (Rows.one (OwnRows.rows hn23)) (one_cons (Row.one (Own.row ha24)) one_nil))) hB12 rfl rfl (fun w127 g128 hB129 => ?_)
      have hs130 := World.grownBy.size g128
      replace hR := hR.grown g128 (by intro h; injection h with h; omega)
      replace G := grown_far G g128 (fun k hk => by injection hk with hk; subst hk; omega)
      replace hn23 := hn23.stored g128 hB12 (by decide) (by decide)
      replace ha24 := ha24.stored g128 hB12 (by decide)
      replace hB12 := hB129
      refine Sq.nil ?_
      refine Eq.next ?_
      refine Cq.ret ?_
      refine Eq.retCell rfl rfl agg26 hB12 rfl ?_
      exact ⟨⟨_, by omega, hR, G⟩, ⟨a.al, a.next.set k55.toNat ((a.next.getD k55.toNat []).set k105.toNat k116), a.acc⟩, ⟨_, _, rfl, (OwnRows.rows hn23), (Own.row ha24)⟩, hsm.row (by omega) (by rw [List.length_set]; have := hsm.rowAt (k := k55.toNat); omega)⟩
    refine Sq.nil ?_
    refine Eq.next ?_
    refine Cq.els rfl ?_
    refine Cq.skip ?_
    refine Eq.end ?_
    refine Eq.next ?_
    refine Cq.seq ?_
    refine Cq.region ?_
    refine Sq.loadAgg agg26 .plain rfl rfl hB33 rfl ?_
    refine Sq.storeAgg agg26 .plain rfl rfl (one_cons rfl (one_cons (Rows.one (OwnRows.rows hn23)) (one_cons (Row.one (Own.row ha24)) one_nil))) hB12 rfl rfl (fun w131 g132 hB133 => ?_)
    have hs134 := World.grownBy.size g132
    replace hR := hR.grown g132 (by intro h; injection h with h; omega)
    replace G := grown_far G g132 (fun k hk => by injection hk with hk; subst hk; omega)
    replace hn23 := hn23.stored g132 hB12 (by decide) (by decide)
    replace ha24 := ha24.stored g132 hB12 (by decide)
    replace hB12 := hB133
    refine Sq.nil ?_
    refine Eq.next ?_
    refine Cq.ret ?_
    refine Eq.retCell rfl rfl agg26 hB12 rfl ?_
    exact ⟨⟨_, by omega, hR, G⟩, a, ⟨_, _, rfl, (OwnRows.rows hn23), (Own.row ha24)⟩, hsm.mono (by omega)⟩
  refine Sq.assign .plain rfl rfl ?_
  refine Sq.nil ?_
  refine Eq.next ?_
  refine Cq.els rfl ?_
  refine Cq.seq ?_
  refine Cq.region ?_
  refine Sq.eql .plain rfl rfl rfl ?_
  refine Sq.part (fun c135 => ?_) (fun c135 => ?_)
  · refine Sq.assign .plain rfl rfl ?_
    refine Sq.nil ?_
    refine Eq.next ?_
    refine Cq.thn rfl ?_
    refine Cq.seq ?_
    refine Cq.region ?_
    refine Sq.move .plain rfl rfl ?_
    refine Sq.lss .plain rfl rfl rfl ?_
    refine Sq.part (fun c136 => ?_) (fun c136 => ?_)
    · refine Sq.move .plain rfl rfl ?_
      refine Sq.fieldAddr fld26_2 (.met rfl rfl rfl) rfl rfl ?_
      refine Sq.loadB one24 (.met rfl rfl rfl) rfl rfl hB33 rfl ?_
      refine Sq.lenBools (Own.row ha24) (.met rfl rfl rfl) rfl und24 rfl ?_
      refine Sq.move (.met rfl rfl rfl) rfl rfl ?_
      refine Sq.gtr (.met rfl rfl rfl) rfl rfl rfl ?_
      refine Sq.part (fun c137 => ?_) (fun c137 => ?_)
      · refine Sq.pickT .plain rfl rfl rfl ?_
        refine Sq.move .plain rfl rfl ?_
        refine Sq.fieldAddr fld26_1 (.met rfl rfl rfl) rfl rfl ?_
        refine Sq.loadB one23 (.met rfl rfl rfl) rfl rfl hB33 rfl ?_
        refine Sq.move (.met rfl rfl rfl) rfl rfl ?_
        refine Sq.idxRows sl23 one56 (OwnRows.rows hn23) (.met rfl rfl rfl) rfl rfl rfl (.met rfl rfl rfl) rfl rfl (by omega) (by omega) (fun r138 hr139 => ?_)
        refine Sq.lenInts hr139 (.met rfl rfl rfl) rfl und56 rfl ?_
        refine Sq.gtr (.met rfl rfl rfl) rfl rfl rfl ?_
        refine Sq.part (fun c140 => ?_) (fun c140 => ?_)
        · refine Sq.pickT .plain rfl rfl rfl ?_
          refine Sq.nil ?_
          refine Eq.next ?_
          refine Cq.thn rfl ?_
          refine Cq.seq ?_
          obtain ⟨pA, rA, hpA, _⟩ := Rows.at (OwnRows.rows hn23) (i := k55) (by omega) (by omega)
          have hrA := (OwnRows.rowAt hn23 hpA).1
          obtain ⟨_, hoA, _, _⟩ := OwnRows.open hn23 (by decide)
          have hpAo := AtO.of hoA hpA
          refine Cq.drawS 11 (fun w' => Blk w' b30 26 [Value.int .i64 a.al, nx21, ac22]) mixed (hB33) (fun w141 e142 hS => ?_)
          clear hS
          have hs143 := Below.size e142
          replace hR := hR.ext e142
          replace G := grown_trans G (Ext.to_grown e142 _)
          replace hB12 := hB12.ext e142
          replace hn23 := hn23.ext e142
          replace ha24 := ha24.ext e142
          replace hB33 := hB33.ext e142
          replace hpA := hpA.ext e142
          replace hrA := hrA.ext e142
          refine Gq.st 0 rfl (by kernel_rfl) rfl .plain rfl (fun _ _ _ h => h) hB33 (fun w' x => Still.fieldAddr fld26_1 rfl) ?_
          refine Gq.st 1 rfl (by kernel_rfl) rfl .plain rfl (fun _ _ _ h => h) hB33 (fun w' x => Still.loadB one23 rfl x rfl) ?_
          refine Gq.st 3 rfl (by kernel_rfl) rfl .plain rfl (fun _ _ _ h => h) hB33 (fun w' x => Still.fieldAddr fld26_1 rfl) ?_
          refine Gq.st 4 rfl (by kernel_rfl) rfl .plain rfl (fun _ _ _ h => h) hB33 (fun w' x => Still.loadB one23 rfl x rfl) ?_
          refine Gq.st 5 rfl (by kernel_rfl) rfl .plain rfl (fun _ _ _ h => h) hB33 (fun w' x => Still.move rfl) ?_
          refine Gq.st 6 rfl (by kernel_rfl) rfl .plain rfl (fun _ _ _ h => h) hB33 (fun w' x => Still.at' sl23 hpA rfl rfl) ?_
          refine Gq.two 2 7 rfl rfl (by kernel_rfl) ?_ ?_
          · refine Sq.lit sl56 rfl rfl .plain rfl rfl one_nil (fun b144 w145 e146 hlo147 ho148 _ => ?_)
            replace ho148 := ho148 w141.heap.size (Nat.le_refl _)
            have hs150 := Below.size e146
            replace hR := hR.ext e146
            replace G := grown_trans G (Ext.to_grown e146 _)
            replace hB12 := hB12.ext e146
            replace hn23 := hn23.ext e146
            replace ha24 := ha24.ext e146
            replace hB33 := hB33.ext e146
            replace hpA := hpA.ext e146
            replace hrA := hrA.ext e146
            refine Sq.nil ?_
            refine Eq.goes (fun _ => hB33) ?_
            refine Gq.one 7 rfl (by kernel_rfl) ?_
            refine Sq.val .plain rfl rfl (Still.loadA one56 rfl hpA.1) ?_
            refine Sq.nil ?_
            refine Eq.goes (fun _ => hB33) ?_
            refine Gq.one 8 rfl (by kernel_rfl) ?_
            refine Sq.app sl56 ho148 (by omega) (Own.row hrA) (one_ints _) (by rw [List.length_map]; simp only [List.length_nil, Nat.zero_add]; omega) .plain rfl rfl rfl rfl (fun v151 w152 ho154 g153 => ?_)
            have hs155 := g153.size
            replace hR := hR.owned ho148 g153 (by decide)
            replace G := grown_new G ho148 g153 (by omega)
            replace hB12 := hB12.owned ho148 g153 (by decide)
            replace hn23 := hn23.apart ho148 g153 (by omega) (by decide)
            replace ha24 := ha24.owned ho148 g153 (by decide)
            replace hB33 := hB33.owned ho148 g153 (by decide)
            simp only [List.nil_append] at ho154
            refine Sq.nil ?_
            refine Eq.goes (fun _ => hB33) ?_
            refine Gq.one 9 rfl (by kernel_rfl) ?_
            refine Sq.lit sl23 rfl rfl .plain rfl rfl (one_cons (Row.one (Own.row ho154)) one_nil) (fun b156 w157 e158 hlo159 ho160 _ => ?_)
            replace ho160 := ho160 w152.heap.size (Nat.le_refl _)
            have hs162 := Below.size e158
            replace hR := hR.ext e158
            replace G := grown_trans G (Ext.to_grown e158 _)
            replace hB12 := hB12.ext e158
            replace hn23 := hn23.ext e158
            replace ha24 := ha24.ext e158
            replace hB33 := hB33.ext e158
            replace ho154 := ho154.ext e158
            refine Sq.nil ?_
            refine Eq.goes (fun _ => hB33) ?_
            refine Gq.one 10 rfl (by kernel_rfl) ?_
            obtain ⟨rs167, q168, q169, q170⟩ := OwnRows.open hn23 (by decide)
            have q170x := Ext.refl w157
            refine Sq.app sl23 q168 (by omega) (Own.row ho160) (one_cons (Row.one (Own.row ho154)) one_nil) (by rw [q169]; first | omega | (simp; omega)) .plain rfl rfl rfl rfl (fun v163 w164 ho166 g165 => ?_)
            have hs171 := g165.size
            have ho166r := q170 _ (a.next.getD k55.toNat []) _ _ _ (Ext.refl _) (Own.mono ho154 (by omega)) (by omega) ho166 g165
            replace hR := hR.owned q168 g165 (by decide)
            replace G := grown_new G q168 g165 (by omega)
            replace hB12 := hB12.owned q168 g165 (by decide)
            replace ha24 := ha24.owned q168 g165 (by decide)
            replace hB33 := hB33.owned q168 g165 (by decide)
            refine Sq.nil ?_
            refine Eq.goes (fun _ => hB33) ?_
            refine Gq.one 11 rfl (by kernel_rfl) ?_
            refine Sq.fieldAddr fld26_1 .plain rfl rfl ?_
            refine Sq.nil ?_
            refine Eq.goes (fun h => absurd h (by decide)) ?_
            refine Gq.one 12 rfl (by kernel_rfl) ?_
            refine Sq.store one23 .plain rfl rfl (Rows.one (OwnRows.rows ho166r)) hB33 (by simp) (fun w172 g173 hB174 => ?_)
            have hs175 := World.grownBy.size g173
            replace hR := hR.grown g173 (by intro h; injection h with h; omega)
            replace G := grown_far G g173 (fun k hk => by injection hk with hk; subst hk; omega)
            replace hB12 := hB12.grown g173 (by intro h; injection h with h; omega)
            replace ha24 := ha24.stored g173 hB33 (by decide)
            replace ho166r := ho166r.stored g173 hB33 (by decide) (by decide)
            replace hB33 := hB174
            refine Sq.nil ?_
            refine Eq.goes (fun h => absurd h (by decide)) ?_
            refine Gq.done (by kernel_rfl) ?_
            refine Eq.next ?_
            refine Cq.seq ?_
            refine Cq.drawS 9 (fun w' => Blk w' b30 26 [Value.int .i64 a.al, v163, ac22]) mixed (hB33) (fun w176 e177 hS => ?_)
            clear hS
            have hs178 := Below.size e177
            replace hR := hR.ext e177
            replace G := grown_trans G (Ext.to_grown e177 _)
            replace hB12 := hB12.ext e177
            replace ha24 := ha24.ext e177
            replace hB33 := hB33.ext e177
            replace ho166r := ho166r.ext e177
            refine Gq.st 0 rfl (by kernel_rfl) rfl .plain rfl (fun _ _ _ h => h) hB33 (fun w' x => Still.fieldAddr fld26_2 rfl) ?_
            refine Gq.st 1 rfl (by kernel_rfl) rfl .plain rfl (fun _ _ _ h => h) hB33 (fun w' x => Still.loadB one24 rfl x rfl) ?_
            refine Gq.st 2 rfl (by kernel_rfl) rfl .plain rfl (fun _ _ _ h => h) hB33 (fun w' x => Still.fieldAddr fld26_2 rfl) ?_
            refine Gq.st 3 rfl (by kernel_rfl) rfl .plain rfl (fun _ _ _ h => h) hB33 (fun w' x => Still.loadB one24 rfl x rfl) ?_
            refine Gq.st 4 rfl (by kernel_rfl) rfl .plain rfl (fun _ _ _ h => h) hB33 (fun w' x => Still.move rfl) ?_
            refine Gq.one 5 rfl (by kernel_rfl) ?_
            obtain ⟨p179, hp180⟩ := Bools.at (Own.row ha24) (i := k55) (by omega) (by omega)
            refine Sq.val .plain rfl rfl (Still.at' sl24 hp180 rfl rfl) ?_
            refine Sq.nil ?_
            refine Eq.goes (fun _ => hB33) ?_
            refine Gq.one 6 rfl (by kernel_rfl) ?_
            refine Sq.val .plain rfl rfl (Still.loadA one4 rfl hp180.1) ?_
            refine Sq.nil ?_
            refine Eq.goes (fun _ => hB33) ?_
            refine Gq.one 7 rfl (by kernel_rfl) ?_
            refine Sq.lit sl24 rfl rfl .plain rfl rfl (one_cons rfl one_nil) (fun b181 w182 e183 hlo184 ho185 _ => ?_)
            replace ho185 := ho185 w176.heap.size (Nat.le_refl _)
            have hs187 := Below.size e183
            replace hR := hR.ext e183
            replace G := grown_trans G (Ext.to_grown e183 _)
            replace hB12 := hB12.ext e183
            replace ha24 := ha24.ext e183
            replace hB33 := hB33.ext e183
            replace ho166r := ho166r.ext e183
            refine Sq.nil ?_
            refine Eq.goes (fun _ => hB33) ?_
            refine Gq.one 8 rfl (by kernel_rfl) ?_
            refine Sq.app sl24 ha24 (by omega) (Own.row ho185) (one_cons rfl one_nil) (by first | omega | (simp; omega)) .plain rfl rfl rfl rfl (fun v188 w189 ho191 g190 => ?_)
            have hs192 := g190.size
            replace hR := hR.owned ha24 g190 (by decide)
            replace G := grown_new G ha24 g190 (by omega)
            replace hB12 := hB12.owned ha24 g190 (by decide)
            replace hB33 := hB33.owned ha24 g190 (by decide)
            replace ho166r := ho166r.owned ha24 g190 (by decide) (by decide)
            refine Sq.nil ?_
            refine Eq.goes (fun _ => hB33) ?_
            refine Gq.one 9 rfl (by kernel_rfl) ?_
            refine Sq.fieldAddr fld26_2 .plain rfl rfl ?_
            refine Sq.nil ?_
            refine Eq.goes (fun h => absurd h (by decide)) ?_
            refine Gq.one 10 rfl (by kernel_rfl) ?_
            refine Sq.store one24 .plain rfl rfl (Row.one (Own.row ho191)) hB33 (by simp) (fun w193 g194 hB195 => ?_)
            have hs196 := World.grownBy.size g194
            replace hR := hR.grown g194 (by intro h; injection h with h; omega)
            replace G := grown_far G g194 (fun k hk => by injection hk with hk; subst hk; omega)
            replace hB12 := hB12.grown g194 (by intro h; injection h with h; omega)
            replace ho166r := ho166r.stored g194 hB33 (by decide) (by decide)
            replace ho191 := ho191.stored g194 hB33 (by decide)
            replace hB33 := hB195
            refine Sq.nil ?_
            refine Eq.goes (fun h => absurd h (by decide)) ?_
            refine Gq.done (by kernel_rfl) ?_
            refine Eq.next ?_
            refine Cq.region ?_
            refine Sq.fieldAddr fld26_1 .plain rfl rfl ?_
            refine Sq.loadB one23 .plain rfl rfl hB33 rfl ?_
            refine Sq.move .plain rfl rfl ?_
            obtain ⟨p197, r199, hp198, _⟩ := Rows.at (OwnRows.rows ho166r) (i := k55) (by first | omega | (simp only [List.length_append, List.length_singleton]; omega)) (by first | omega | (simp only [List.length_append, List.length_singleton]; omega))
            have hr200 := (OwnRows.rowAt ho166r hp198).1
            refine Sq.val .plain rfl rfl (Still.at' sl23 hp198 rfl rfl) ?_
            refine Sq.val .plain rfl rfl (Still.loadA one56 rfl hp198.1) ?_
            refine Sq.move .plain rfl rfl ?_
            obtain ⟨p201, hp202o⟩ := Own.at hr200 (i := 0) (by first | omega | (rw [getD_app (by omega)]; omega)) (by first | (simp only [List.length_map]; first | omega | (rw [getD_app (by omega)]; omega)) | (simp; first | omega | (rw [getD_app (by omega)]; omega)))
            refine Sq.atO sl56 hp202o .plain rfl rfl rfl ?_
            refine Sq.storeO one3 hr200 hp202o .plain rfl rfl rfl (fun w203 g204 ho205 => ?_)
            have hs206 := World.grownBy.size g204
            rw [← List.map_set] at ho205
            replace ho166r := (OwnRows.set ho166r (by decide) hp198 ho205 g204).1
            replace hR := hR.owned hr200 g204 (by decide)
            replace G := grown_new G hr200 g204 (by omega)
            replace hB12 := hB12.owned hr200 g204 (by decide)
            replace hB33 := hB33.owned hr200 g204 (by decide)
            replace ho191 := ho191.owned hr200 g204 (by decide)
            refine Sq.nil ?_
            refine Eq.end ?_
            refine Eq.next ?_
            refine Cq.seq ?_
            refine Cq.region ?_
            refine Sq.loadAgg agg26 .plain rfl rfl hB33 rfl ?_
            refine Sq.storeAgg agg26 .plain rfl rfl (one_cons rfl (one_cons (Rows.one (OwnRows.rows ho166r)) (one_cons (Row.one (Own.row ho191)) one_nil))) hB12 rfl rfl (fun w207 g208 hB209 => ?_)
            have hs210 := World.grownBy.size g208
            replace hR := hR.grown g208 (by intro h; injection h with h; omega)
            replace G := grown_far G g208 (fun k hk => by injection hk with hk; subst hk; omega)
            replace ho166r := ho166r.stored g208 hB12 (by decide) (by decide)
            replace ho191 := ho191.stored g208 hB12 (by decide)
            replace hB12 := hB209
            refine Sq.nil ?_
            refine Eq.next ?_
            refine Cq.ret ?_
            refine Eq.retCell rfl rfl agg26 hB12 rfl ?_
            exact ⟨⟨_, by omega, hR, G⟩, ⟨a.al, _, a.acc ++ [a.acc.getD k55.toNat false]⟩, ⟨_, _, rfl, (OwnRows.rows ho166r), (Own.row (Own.snocB ho191))⟩, Small.row (a := ⟨a.al, a.next ++ [a.next.getD k55.toNat []], a.acc ++ [a.acc.getD k55.toNat false]⟩) (hsm.push2 (m := N + 10) (by omega) (by have := hsm.rowAt (k := k55.toNat); omega)) (by omega) (by rw [List.length_set, getD_app (by omega)]; have := hsm.rowAt (k := k55.toNat); omega)⟩
          refine Sq.val .plain rfl rfl (Still.loadA one56 rfl hpA.1) ?_
          refine Sq.nil ?_
          refine Eq.goes (fun _ => hB33) ?_
          refine Gq.one 2 rfl (by kernel_rfl) ?_
          refine Sq.lit sl56 rfl rfl .plain rfl rfl one_nil (fun b211 w212 e213 hlo214 ho215 _ => ?_)
          replace ho215 := ho215 w141.heap.size (Nat.le_refl _)
          have hs217 := Below.size e213
          replace hR := hR.ext e213
          replace G := grown_trans G (Ext.to_grown e213 _)
          replace hB12 := hB12.ext e213
          replace hn23 := hn23.ext e213
          replace ha24 := ha24.ext e213
          replace hB33 := hB33.ext e213
          replace hrA := hrA.ext e213
          refine Sq.nil ?_
          refine Eq.goes (fun _ => hB33) ?_
          refine Gq.one 8 rfl (by kernel_rfl) ?_
          refine Sq.app sl56 ho215 (by omega) (Own.row hrA) (one_ints _) (by rw [List.length_map]; simp only [List.length_nil, Nat.zero_add]; omega) .plain rfl rfl rfl rfl (fun v218 w219 ho221 g220 => ?_)
          have hs222 := g220.size
          replace hR := hR.owned ho215 g220 (by decide)
          replace G := grown_new G ho215 g220 (by omega)
          replace hB12 := hB12.owned ho215 g220 (by decide)
          replace hn23 := hn23.apart ho215 g220 (by omega) (by decide)
          replace ha24 := ha24.owned ho215 g220 (by decide)
          replace hB33 := hB33.owned ho215 g220 (by decide)
          simp only [List.nil_append] at ho221
          refine Sq.nil ?_
          refine Eq.goes (fun _ => hB33) ?_
          refine Gq.one 9 rfl (by kernel_rfl) ?_
          refine Sq.lit sl23 rfl rfl .plain rfl rfl (one_cons (Row.one (Own.row ho221)) one_nil) (fun b223 w224 e225 hlo226 ho227 _ => ?_)
          replace ho227 := ho227 w219.heap.size (Nat.le_refl _)
          have hs229 := Below.size e225
          replace hR := hR.ext e225
          replace G := grown_trans G (Ext.to_grown e225 _)
          replace hB12 := hB12.ext e225
          replace hn23 := hn23.ext e225
          replace ha24 := ha24.ext e225
          replace hB33 := hB33.ext e225
          replace ho221 := ho221.ext e225
          refine Sq.nil ?_
          refine Eq.goes (fun _ => hB33) ?_
          refine Gq.one 10 rfl (by kernel_rfl) ?_
          obtain ⟨rs234, q235, q236, q237⟩ := OwnRows.open hn23 (by decide)
          have q237x := Ext.refl w224
          refine Sq.app sl23 q235 (by omega) (Own.row ho227) (one_cons (Row.one (Own.row ho221)) one_nil) (by rw [q236]; first | omega | (simp; omega)) .plain rfl rfl rfl rfl (fun v230 w231 ho233 g232 => ?_)
          have hs238 := g232.size
          have ho233r := q237 _ (a.next.getD k55.toNat []) _ _ _ (Ext.refl _) (Own.mono ho221 (by omega)) (by omega) ho233 g232
          replace hR := hR.owned q235 g232 (by decide)
          replace G := grown_new G q235 g232 (by omega)
          replace hB12 := hB12.owned q235 g232 (by decide)
          replace ha24 := ha24.owned q235 g232 (by decide)
          replace hB33 := hB33.owned q235 g232 (by decide)
          refine Sq.nil ?_
          refine Eq.goes (fun _ => hB33) ?_
          refine Gq.one 11 rfl (by kernel_rfl) ?_
          refine Sq.fieldAddr fld26_1 .plain rfl rfl ?_
          refine Sq.nil ?_
          refine Eq.goes (fun h => absurd h (by decide)) ?_
          refine Gq.one 12 rfl (by kernel_rfl) ?_
          refine Sq.store one23 .plain rfl rfl (Rows.one (OwnRows.rows ho233r)) hB33 (by simp) (fun w239 g240 hB241 => ?_)
          have hs242 := World.grownBy.size g240
          replace hR := hR.grown g240 (by intro h; injection h with h; omega)
          replace G := grown_far G g240 (fun k hk => by injection hk with hk; subst hk; omega)
          replace hB12 := hB12.grown g240 (by intro h; injection h with h; omega)
          replace ha24 := ha24.stored g240 hB33 (by decide)
          replace ho233r := ho233r.stored g240 hB33 (by decide) (by decide)
          replace hB33 := hB241
          refine Sq.nil ?_
          refine Eq.goes (fun h => absurd h (by decide)) ?_
          refine Gq.done (by kernel_rfl) ?_
          refine Eq.next ?_
          refine Cq.seq ?_
          refine Cq.drawS 9 (fun w' => Blk w' b30 26 [Value.int .i64 a.al, v230, ac22]) mixed (hB33) (fun w243 e244 hS => ?_)
          clear hS
          have hs245 := Below.size e244
          replace hR := hR.ext e244
          replace G := grown_trans G (Ext.to_grown e244 _)
          replace hB12 := hB12.ext e244
          replace ha24 := ha24.ext e244
          replace hB33 := hB33.ext e244
          replace ho233r := ho233r.ext e244
          refine Gq.st 0 rfl (by kernel_rfl) rfl .plain rfl (fun _ _ _ h => h) hB33 (fun w' x => Still.fieldAddr fld26_2 rfl) ?_
          refine Gq.st 1 rfl (by kernel_rfl) rfl .plain rfl (fun _ _ _ h => h) hB33 (fun w' x => Still.loadB one24 rfl x rfl) ?_
          refine Gq.st 2 rfl (by kernel_rfl) rfl .plain rfl (fun _ _ _ h => h) hB33 (fun w' x => Still.fieldAddr fld26_2 rfl) ?_
          refine Gq.st 3 rfl (by kernel_rfl) rfl .plain rfl (fun _ _ _ h => h) hB33 (fun w' x => Still.loadB one24 rfl x rfl) ?_
          refine Gq.st 4 rfl (by kernel_rfl) rfl .plain rfl (fun _ _ _ h => h) hB33 (fun w' x => Still.move rfl) ?_
          refine Gq.one 5 rfl (by kernel_rfl) ?_
          obtain ⟨p246, hp247⟩ := Bools.at (Own.row ha24) (i := k55) (by omega) (by omega)
          refine Sq.val .plain rfl rfl (Still.at' sl24 hp247 rfl rfl) ?_
          refine Sq.nil ?_
          refine Eq.goes (fun _ => hB33) ?_
          refine Gq.one 6 rfl (by kernel_rfl) ?_
          refine Sq.val .plain rfl rfl (Still.loadA one4 rfl hp247.1) ?_
          refine Sq.nil ?_
          refine Eq.goes (fun _ => hB33) ?_
          refine Gq.one 7 rfl (by kernel_rfl) ?_
          refine Sq.lit sl24 rfl rfl .plain rfl rfl (one_cons rfl one_nil) (fun b248 w249 e250 hlo251 ho252 _ => ?_)
          replace ho252 := ho252 w243.heap.size (Nat.le_refl _)
          have hs254 := Below.size e250
          replace hR := hR.ext e250
          replace G := grown_trans G (Ext.to_grown e250 _)
          replace hB12 := hB12.ext e250
          replace ha24 := ha24.ext e250
          replace hB33 := hB33.ext e250
          replace ho233r := ho233r.ext e250
          refine Sq.nil ?_
          refine Eq.goes (fun _ => hB33) ?_
          refine Gq.one 8 rfl (by kernel_rfl) ?_
          refine Sq.app sl24 ha24 (by omega) (Own.row ho252) (one_cons rfl one_nil) (by first | omega | (simp; omega)) .plain rfl rfl rfl rfl (fun v255 w256 ho258 g257 => ?_)
          have hs259 := g257.size
          replace hR := hR.owned ha24 g257 (by decide)
          replace G := grown_new G ha24 g257 (by omega)
          replace hB12 := hB12.owned ha24 g257 (by decide)
          replace hB33 := hB33.owned ha24 g257 (by decide)
          replace ho233r := ho233r.owned ha24 g257 (by decide) (by decide)
          refine Sq.nil ?_
          refine Eq.goes (fun _ => hB33) ?_
          refine Gq.one 9 rfl (by kernel_rfl) ?_
          refine Sq.fieldAddr fld26_2 .plain rfl rfl ?_
          refine Sq.nil ?_
          refine Eq.goes (fun h => absurd h (by decide)) ?_
          refine Gq.one 10 rfl (by kernel_rfl) ?_
          refine Sq.store one24 .plain rfl rfl (Row.one (Own.row ho258)) hB33 (by simp) (fun w260 g261 hB262 => ?_)
          have hs263 := World.grownBy.size g261
          replace hR := hR.grown g261 (by intro h; injection h with h; omega)
          replace G := grown_far G g261 (fun k hk => by injection hk with hk; subst hk; omega)
          replace hB12 := hB12.grown g261 (by intro h; injection h with h; omega)
          replace ho233r := ho233r.stored g261 hB33 (by decide) (by decide)
          replace ho258 := ho258.stored g261 hB33 (by decide)
          replace hB33 := hB262
          refine Sq.nil ?_
          refine Eq.goes (fun h => absurd h (by decide)) ?_
          refine Gq.done (by kernel_rfl) ?_
          refine Eq.next ?_
          refine Cq.region ?_
          refine Sq.fieldAddr fld26_1 .plain rfl rfl ?_
          refine Sq.loadB one23 .plain rfl rfl hB33 rfl ?_
          refine Sq.move .plain rfl rfl ?_
          obtain ⟨p264, r266, hp265, _⟩ := Rows.at (OwnRows.rows ho233r) (i := k55) (by first | omega | (simp only [List.length_append, List.length_singleton]; omega)) (by first | omega | (simp only [List.length_append, List.length_singleton]; omega))
          have hr267 := (OwnRows.rowAt ho233r hp265).1
          refine Sq.val .plain rfl rfl (Still.at' sl23 hp265 rfl rfl) ?_
          refine Sq.val .plain rfl rfl (Still.loadA one56 rfl hp265.1) ?_
          refine Sq.move .plain rfl rfl ?_
          obtain ⟨p268, hp269o⟩ := Own.at hr267 (i := 0) (by first | omega | (rw [getD_app (by omega)]; omega)) (by first | (simp only [List.length_map]; first | omega | (rw [getD_app (by omega)]; omega)) | (simp; first | omega | (rw [getD_app (by omega)]; omega)))
          refine Sq.atO sl56 hp269o .plain rfl rfl rfl ?_
          refine Sq.storeO one3 hr267 hp269o .plain rfl rfl rfl (fun w270 g271 ho272 => ?_)
          have hs273 := World.grownBy.size g271
          rw [← List.map_set] at ho272
          replace ho233r := (OwnRows.set ho233r (by decide) hp265 ho272 g271).1
          replace hR := hR.owned hr267 g271 (by decide)
          replace G := grown_new G hr267 g271 (by omega)
          replace hB12 := hB12.owned hr267 g271 (by decide)
          replace hB33 := hB33.owned hr267 g271 (by decide)
          replace ho258 := ho258.owned hr267 g271 (by decide)
          refine Sq.nil ?_
          refine Eq.end ?_
          refine Eq.next ?_
          refine Cq.seq ?_
          refine Cq.region ?_
          refine Sq.loadAgg agg26 .plain rfl rfl hB33 rfl ?_
          refine Sq.storeAgg agg26 .plain rfl rfl (one_cons rfl (one_cons (Rows.one (OwnRows.rows ho233r)) (one_cons (Row.one (Own.row ho258)) one_nil))) hB12 rfl rfl (fun w274 g275 hB276 => ?_)
          have hs277 := World.grownBy.size g275
          replace hR := hR.grown g275 (by intro h; injection h with h; omega)
          replace G := grown_far G g275 (fun k hk => by injection hk with hk; subst hk; omega)
          replace ho233r := ho233r.stored g275 hB12 (by decide) (by decide)
          replace ho258 := ho258.stored g275 hB12 (by decide)
          replace hB12 := hB276
          refine Sq.nil ?_
          refine Eq.next ?_
          refine Cq.ret ?_
          refine Eq.retCell rfl rfl agg26 hB12 rfl ?_
          exact ⟨⟨_, by omega, hR, G⟩, ⟨a.al, _, a.acc ++ [a.acc.getD k55.toNat false]⟩, ⟨_, _, rfl, (OwnRows.rows ho233r), (Own.row (Own.snocB ho258))⟩, Small.row (a := ⟨a.al, a.next ++ [a.next.getD k55.toNat []], a.acc ++ [a.acc.getD k55.toNat false]⟩) (hsm.push2 (m := N + 10) (by omega) (by have := hsm.rowAt (k := k55.toNat); omega)) (by omega) (by rw [List.length_set, getD_app (by omega)]; have := hsm.rowAt (k := k55.toNat); omega)⟩
        refine Sq.pickT .plain rfl rfl rfl ?_
        refine Sq.nil ?_
        refine Eq.next ?_
        refine Cq.els rfl ?_
        refine Cq.skip ?_
        refine Eq.end ?_
        refine Eq.next ?_
        refine Cq.seq ?_
        refine Cq.region ?_
        refine Sq.loadAgg agg26 .plain rfl rfl hB33 rfl ?_
        refine Sq.storeAgg agg26 .plain rfl rfl (one_cons rfl (one_cons (Rows.one (OwnRows.rows hn23)) (one_cons (Row.one (Own.row ha24)) one_nil))) hB12 rfl rfl (fun w278 g279 hB280 => ?_)
        have hs281 := World.grownBy.size g279
        replace hR := hR.grown g279 (by intro h; injection h with h; omega)
        replace G := grown_far G g279 (fun k hk => by injection hk with hk; subst hk; omega)
        replace hn23 := hn23.stored g279 hB12 (by decide) (by decide)
        replace ha24 := ha24.stored g279 hB12 (by decide)
        replace hB12 := hB280
        refine Sq.nil ?_
        refine Eq.next ?_
        refine Cq.ret ?_
        refine Eq.retCell rfl rfl agg26 hB12 rfl ?_
        exact ⟨⟨_, by omega, hR, G⟩, a, ⟨_, _, rfl, (OwnRows.rows hn23), (Own.row ha24)⟩, hsm.mono (by omega)⟩
      refine Sq.pickT .plain rfl rfl rfl ?_
      refine Sq.move .plain rfl rfl ?_
      refine Sq.off rfl rfl rfl rfl rfl rfl ?_
      refine Sq.off rfl rfl rfl rfl rfl rfl ?_
      refine Sq.off rfl rfl rfl rfl rfl rfl ?_
      refine Sq.off rfl rfl rfl rfl rfl rfl ?_
      refine Sq.off rfl rfl rfl rfl rfl rfl ?_
      refine Sq.off rfl rfl rfl rfl rfl rfl ?_
      refine Sq.off rfl rfl rfl rfl rfl rfl ?_
      refine Sq.pickF .plain rfl rfl rfl ?_
      refine Sq.nil ?_
      refine Eq.next ?_
      refine Cq.els rfl ?_
      refine Cq.skip ?_
      refine Eq.end ?_
      refine Eq.next ?_
      refine Cq.seq ?_
      refine Cq.region ?_
      refine Sq.loadAgg agg26 .plain rfl rfl hB33 rfl ?_
      refine Sq.storeAgg agg26 .plain rfl rfl (one_cons rfl (one_cons (Rows.one (OwnRows.rows hn23)) (one_cons (Row.one (Own.row ha24)) one_nil))) hB12 rfl rfl (fun w282 g283 hB284 => ?_)
      have hs285 := World.grownBy.size g283
      replace hR := hR.grown g283 (by intro h; injection h with h; omega)
      replace G := grown_far G g283 (fun k hk => by injection hk with hk; subst hk; omega)
      replace hn23 := hn23.stored g283 hB12 (by decide) (by decide)
      replace ha24 := ha24.stored g283 hB12 (by decide)
      replace hB12 := hB284
      refine Sq.nil ?_
      refine Eq.next ?_
      refine Cq.ret ?_
      refine Eq.retCell rfl rfl agg26 hB12 rfl ?_
      exact ⟨⟨_, by omega, hR, G⟩, a, ⟨_, _, rfl, (OwnRows.rows hn23), (Own.row ha24)⟩, hsm.mono (by omega)⟩
    refine Sq.move .plain rfl rfl ?_
    refine Sq.off rfl rfl rfl rfl rfl rfl ?_
    refine Sq.off rfl rfl rfl rfl rfl rfl ?_
    refine Sq.off rfl rfl rfl rfl rfl rfl ?_
    refine Sq.off rfl rfl rfl rfl rfl rfl ?_
    refine Sq.off rfl rfl rfl rfl rfl rfl ?_
    refine Sq.pickF .plain rfl rfl rfl ?_
    refine Sq.move .plain rfl rfl ?_
    refine Sq.off rfl rfl rfl rfl rfl rfl ?_
    refine Sq.off rfl rfl rfl rfl rfl rfl ?_
    refine Sq.off rfl rfl rfl rfl rfl rfl ?_
    refine Sq.off rfl rfl rfl rfl rfl rfl ?_
    refine Sq.off rfl rfl rfl rfl rfl rfl ?_
    refine Sq.off rfl rfl rfl rfl rfl rfl ?_
    refine Sq.off rfl rfl rfl rfl rfl rfl ?_
    refine Sq.pickF .plain rfl rfl rfl ?_
    refine Sq.nil ?_
    refine Eq.next ?_
    refine Cq.els rfl ?_
    refine Cq.skip ?_
    refine Eq.end ?_
    refine Eq.next ?_
    refine Cq.seq ?_
    refine Cq.region ?_
    refine Sq.loadAgg agg26 .plain rfl rfl hB33 rfl ?_
    refine Sq.storeAgg agg26 .plain rfl rfl (one_cons rfl (one_cons (Rows.one (OwnRows.rows hn23)) (one_cons (Row.one (Own.row ha24)) one_nil))) hB12 rfl rfl (fun w286 g287 hB288 => ?_)
    have hs289 := World.grownBy.size g287
    replace hR := hR.grown g287 (by intro h; injection h with h; omega)
    replace G := grown_far G g287 (fun k hk => by injection hk with hk; subst hk; omega)
    replace hn23 := hn23.stored g287 hB12 (by decide) (by decide)
    replace ha24 := ha24.stored g287 hB12 (by decide)
    replace hB12 := hB288
    refine Sq.nil ?_
    refine Eq.next ?_
    refine Cq.ret ?_
    refine Eq.retCell rfl rfl agg26 hB12 rfl ?_
    exact ⟨⟨_, by omega, hR, G⟩, a, ⟨_, _, rfl, (OwnRows.rows hn23), (Own.row ha24)⟩, hsm.mono (by omega)⟩
  refine Sq.assign .plain rfl rfl ?_
  refine Sq.nil ?_
  refine Eq.next ?_
  refine Cq.els rfl ?_
  refine Cq.skip ?_
  refine Eq.end ?_
  refine Eq.next ?_
  refine Cq.seq ?_
  refine Cq.region ?_
  refine Sq.loadAgg agg26 .plain rfl rfl hB33 rfl ?_
  refine Sq.storeAgg agg26 .plain rfl rfl (one_cons rfl (one_cons (Rows.one (OwnRows.rows hn23)) (one_cons (Row.one (Own.row ha24)) one_nil))) hB12 rfl rfl (fun w290 g291 hB292 => ?_)
  have hs293 := World.grownBy.size g291
  replace hR := hR.grown g291 (by intro h; injection h with h; omega)
  replace G := grown_far G g291 (fun k hk => by injection hk with hk; subst hk; omega)
  replace hn23 := hn23.stored g291 hB12 (by decide) (by decide)
  replace ha24 := ha24.stored g291 hB12 (by decide)
  replace hB12 := hB292
  refine Sq.nil ?_
  refine Eq.next ?_
  refine Cq.ret ?_
  refine Eq.retCell rfl rfl agg26 hB12 rfl ?_
  exact ⟨⟨_, by omega, hR, G⟩, a, ⟨_, _, rfl, (OwnRows.rows hn23), (Own.row ha24)⟩, hsm.mono (by omega)⟩
end Go.Proofs.Ytdejmfkpohgamaa
set_option linter.unusedSimpArgs false
set_option linter.unusedVariables false
namespace Go.Proofs.Ytdejmfkpohgamaa
open Go.RowKit
set_option maxRecDepth 100000 in
theorem drawProd_c (w0 : World) (e : TypeId) (a0 : Option Addr) (c0 : Nat) (cs : List UInt8) (hc : Bytes w0 e (.slice a0 cs.length c0) cs) (hcap : cs.length ≤ c0) : Ret Try.prog 15 #[Value.slice a0 cs.length c0] w0 (fun v w => (∃ (u u' : Value) (k : Int) (a b : A), v = .tuple #[u, u', .int .i64 k] ∧ RowsA w u a ∧ RowsA w u' b ∧ Small 400 a ∧ Small 400 b ∧ -1 ≤ k ∧ k ≤ 3) ∧ Ext w0 w) := by
  have E := Ext.refl w0
  refine Ret.of (args := [Value.slice a0 cs.length c0]) Try.func15 rfl rfl rfl ?_
  rintro _ rfl
  show Cq _ _ _ _ [(0, Value.slice a0 cs.length c0)] _
  refine Cq.seq ?_
  refine Cq.region ?_
  refine Sq.alloc zero26 .plain rfl (fun b1 w2 e3 hB4 hlo5 => ?_)
  have hd6 := Nat.le_trans (Below.size E) hlo5
  have hs7 := Below.size e3
  replace E := E.trans e3
  refine Sq.alloc zero26 .plain rfl (fun b8 w9 e10 hB11 hlo12 => ?_)
  have hd13 := Nat.le_trans (Below.size E) hlo12
  have hd14 := Nat.lt_of_lt_of_le hB4.lt hlo12
  have hs15 := Below.size e10
  replace E := E.trans e10
  replace hB4 := hB4.ext e10
  refine Sq.assign .plain rfl rfl ?_
  refine Sq.nil ?_
  refine Eq.next ?_
  refine Cq.seq ?_
  refine Cq.region ?_
  refine Sq.move .plain rfl rfl ?_
  refine Sq.call fn41 .plain rfl rfl (open_c _ _ _ _ _ (hc.ext E) hcap) ?_
  rintro _ w16 ⟨⟨rb, bv, bs, rfl, hrb, hR, hb, hbl⟩, e17⟩
  have hrlt := hR.lt
  have hd18 := Nat.le_trans (Below.size E) hrb
  have hd19 := Nat.lt_of_lt_of_le hB4.lt hrb
  have hd20 := Nat.lt_of_lt_of_le hB11.lt hrb
  have hs21 := Below.size e17
  replace E := E.trans e17
  replace hB4 := hB4.ext e17
  replace hB11 := hB11.ext e17
  have G := World.grownBy.refl w16 (some rb)
  refine Sq.assign .plain rfl rfl ?_
  refine Sq.nil ?_
  refine Eq.next ?_
  refine Cq.seq ?_
  refine Cq.region ?_
  refine Sq.move .plain rfl rfl ?_
  refine Sq.call fn42 .plain rfl rfl (l3Draw_c _ _ _ _ _ _ hR (hb.go G) hbl (by omega) ) ?_
  rintro _ w23 ⟨⟨p24, hp27, hB26, g25⟩, ⟨a28, ⟨nx29, ac30, rfl, hn31, ha32⟩, hv33, hal34⟩⟩
  have hs35 := World.grownBy.size g25
  have hs36 := Below.size E
  have hs37 := World.grownBy.size G
  have hs38 := World.grownBy.size g25
  replace E := E.grown g25 (fun k hk => by injection hk with hk; subst hk; omega)
  replace hB4 := hB4.grown g25 (by intro h; injection h with h; omega)
  replace hB11 := hB11.grown g25 (by intro h; injection h with h; omega)
  replace G := grown_trans G g25
  replace hR := hB26
  refine Sq.alloc zero26 .plain rfl (fun b39 w40 e41 hB42 hlo43 => ?_)
  have hd44 := Nat.le_trans (Below.size E) hlo43
  have hd45 := Nat.lt_of_lt_of_le hB4.lt hlo43
  have hd46 := Nat.lt_of_lt_of_le hB11.lt hlo43
  have hd47 := Nat.lt_of_lt_of_le hR.lt hlo43
  have hd48 := Nat.le_trans (World.grownBy.size G) hlo43
  have hs49 := Below.size e41
  replace E := E.trans e41
  replace hB4 := hB4.ext e41
  replace hB11 := hB11.ext e41
  replace hR := hR.ext e41
  replace G := grown_trans G (Ext.to_grown e41 _)
  replace hn31 := hn31.ext e41
  replace ha32 := ha32.ext e41
  refine Sq.storeAgg agg26 .plain rfl rfl (one_cons rfl (one_cons (Rows.one hn31) (one_cons (Row.one ha32) one_nil))) hB42 rfl rfl (fun w50 g51 hB52 => ?_)
  have hs53 := World.grownBy.size g51
  replace E := E.grown g51 (fun k hk => by injection hk with hk; subst hk; omega)
  replace hB4 := hB4.grown g51 (by intro h; injection h with h; omega)
  replace hB11 := hB11.grown g51 (by intro h; injection h with h; omega)
  replace hR := hR.grown g51 (by intro h; injection h with h; omega)
  replace G := grown_far G g51 (fun k hk => by injection hk with hk; subst hk; omega)
  replace hn31 := hn31.stored g51 hB42 (by decide) (by decide)
  replace ha32 := ha32.stored g51 hB42 (by decide)
  replace hB42 := hB52
  refine Sq.nil ?_
  refine Eq.next ?_
  refine Cq.seq ?_
  refine Cq.region ?_
  refine Sq.move .plain rfl rfl ?_
  refine Sq.call fn42 .plain rfl rfl (l3Draw_c _ _ _ _ _ _ hR (hb.go G) hbl (by omega) ) ?_
  rintro _ w55 ⟨⟨p56, hp59, hB58, g57⟩, ⟨a60, ⟨nx61, ac62, rfl, hn63, ha64⟩, hv65, hal66⟩⟩
  have hs67 := World.grownBy.size g57
  have hs68 := Below.size E
  have hs69 := World.grownBy.size G
  have hs70 := World.grownBy.size g57
  replace E := E.grown g57 (fun k hk => by injection hk with hk; subst hk; omega)
  replace hB4 := hB4.grown g57 (by intro h; injection h with h; omega)
  replace hB11 := hB11.grown g57 (by intro h; injection h with h; omega)
  replace G := grown_trans G g57
  replace hn31 := hn31.stored g57 hR (by decide) (by decide)
  replace ha32 := ha32.stored g57 hR (by decide)
  replace hB42 := hB42.grown g57 (by intro h; injection h with h; omega)
  replace hR := hB58
  refine Sq.alloc zero26 .plain rfl (fun b71 w72 e73 hB74 hlo75 => ?_)
  have hd76 := Nat.le_trans (Below.size E) hlo75
  have hd77 := Nat.lt_of_lt_of_le hB4.lt hlo75
  have hd78 := Nat.lt_of_lt_of_le hB11.lt hlo75
  have hd79 := Nat.lt_of_lt_of_le hR.lt hlo75
  have hd80 := Nat.le_trans (World.grownBy.size G) hlo75
  have hd81 := Nat.lt_of_lt_of_le hB42.lt hlo75
  have hs82 := Below.size e73
  replace E := E.trans e73
  replace hB4 := hB4.ext e73
  replace hB11 := hB11.ext e73
  replace hR := hR.ext e73
  replace G := grown_trans G (Ext.to_grown e73 _)
  replace hn31 := hn31.ext e73
  replace ha32 := ha32.ext e73
  replace hB42 := hB42.ext e73
  replace hn63 := hn63.ext e73
  replace ha64 := ha64.ext e73
  refine Sq.storeAgg agg26 .plain rfl rfl (one_cons rfl (one_cons (Rows.one hn63) (one_cons (Row.one ha64) one_nil))) hB74 rfl rfl (fun w83 g84 hB85 => ?_)
  have hs86 := World.grownBy.size g84
  replace E := E.grown g84 (fun k hk => by injection hk with hk; subst hk; omega)
  replace hB4 := hB4.grown g84 (by intro h; injection h with h; omega)
  replace hB11 := hB11.grown g84 (by intro h; injection h with h; omega)
  replace hR := hR.grown g84 (by intro h; injection h with h; omega)
  replace G := grown_far G g84 (fun k hk => by injection hk with hk; subst hk; omega)
  replace hn31 := hn31.stored g84 hB74 (by decide) (by decide)
  replace ha32 := ha32.stored g84 hB74 (by decide)
  replace hB42 := hB42.grown g84 (by intro h; injection h with h; omega)
  replace hn63 := hn63.stored g84 hB74 (by decide) (by decide)
  replace ha64 := ha64.stored g84 hB74 (by decide)
  replace hB74 := hB85
  refine Sq.nil ?_
  refine Eq.next ?_
  refine Cq.seq ?_
  refine Cq.seq ?_
  refine Cq.region ?_
  refine Sq.move .plain rfl rfl ?_
  refine Sq.call fn43 .plain rfl rfl (pick_c _ _ _ _ _ _ hR (hb.go G) hbl (by omega) 6 (by omega)) ?_
  rintro _ w88 ⟨⟨p89, hp92, hB91, g90⟩, ⟨k93, rfl, hk94⟩⟩
  have hs95 := World.grownBy.size g90
  have hs96 := Below.size E
  have hs97 := World.grownBy.size G
  have hs98 := World.grownBy.size g90
  replace E := E.grown g90 (fun k hk => by injection hk with hk; subst hk; omega)
  replace hB4 := hB4.grown g90 (by intro h; injection h with h; omega)
  replace hB11 := hB11.grown g90 (by intro h; injection h with h; omega)
  replace G := grown_trans G g90
  replace hn31 := hn31.stored g90 hR (by decide) (by decide)
  replace ha32 := ha32.stored g90 hR (by decide)
  replace hB42 := hB42.grown g90 (by intro h; injection h with h; omega)
  replace hn63 := hn63.stored g90 hR (by decide) (by decide)
  replace ha64 := ha64.stored g90 hR (by decide)
  replace hB74 := hB74.grown g90 (by intro h; injection h with h; omega)
  replace hR := hB91
  refine Sq.nil ?_
  refine Eq.next ?_
  refine Cq.block ?_
  refine Cq.seq ?_
  refine Cq.region ?_
  refine Sq.eql .plain rfl rfl rfl ?_
  refine Sq.part (fun c99 => ?_) (fun c99 => ?_)
  · refine Sq.assign .plain rfl rfl ?_
    refine Sq.nil ?_
    refine Eq.next ?_
    refine Cq.thn rfl ?_
    refine Cq.region ?_
    refine Sq.move .plain rfl rfl ?_
    refine Sq.loadAgg agg26 .plain rfl rfl hB42 rfl ?_
    refine Sq.call fn44 .plain rfl rfl (l4Change_c _ _ _ _ _ _ hR (hb.go G) hbl (by omega) a28 _ _ hn31 ha32 _ (by omega) hv33) ?_
    rintro _ w101 ⟨⟨p102, hp105, hB104, g103⟩, ⟨a106, ⟨nx107, ac108, rfl, hn109, ha110⟩, hv111⟩⟩
    have hs112 := World.grownBy.size g103
    have hs113 := Below.size E
    have hs114 := World.grownBy.size G
    have hs115 := World.grownBy.size g103
    replace E := E.grown g103 (fun k hk => by injection hk with hk; subst hk; omega)
    replace hB4 := hB4.grown g103 (by intro h; injection h with h; omega)
    replace hB11 := hB11.grown g103 (by intro h; injection h with h; omega)
    replace G := grown_trans G g103
    replace hn31 := hn31.stored g103 hR (by decide) (by decide)
    replace ha32 := ha32.stored g103 hR (by decide)
    replace hB42 := hB42.grown g103 (by intro h; injection h with h; omega)
    replace hB74 := hB74.grown g103 (by intro h; injection h with h; omega)
    replace hR := hB104
    refine Sq.storeAgg agg26 .plain rfl rfl (one_cons rfl (one_cons (Rows.one hn109) (one_cons (Row.one ha110) one_nil))) hB74 rfl rfl (fun w116 g117 hB118 => ?_)
    have hs119 := World.grownBy.size g117
    replace E := E.grown g117 (fun k hk => by injection hk with hk; subst hk; omega)
    replace hB4 := hB4.grown g117 (by intro h; injection h with h; omega)
    replace hB11 := hB11.grown g117 (by intro h; injection h with h; omega)
    replace hR := hR.grown g117 (by intro h; injection h with h; omega)
    replace G := grown_far G g117 (fun k hk => by injection hk with hk; subst hk; omega)
    replace hn31 := hn31.stored g117 hB74 (by decide) (by decide)
    replace ha32 := ha32.stored g117 hB74 (by decide)
    replace hB42 := hB42.grown g117 (by intro h; injection h with h; omega)
    replace hn109 := hn109.stored g117 hB74 (by decide) (by decide)
    replace ha110 := ha110.stored g117 hB74 (by decide)
    replace hB74 := hB118
    refine Sq.nil ?_
    refine Eq.end ?_
    refine Eq.next ?_
    refine Cq.seq ?_
    refine Cq.drawS 7 (fun w' => Blk w' b39 26 [Value.int .i64 a28.al, nx29, ac30] ∧ Blk w' b71 26 [Value.int .i64 a106.al, nx107, ac108]) mixed (⟨hB42, hB74⟩) (fun w120 e121 hS => ?_)
    clear hS
    have hs122 := Below.size e121
    replace E := E.trans e121
    replace hB4 := hB4.ext e121
    replace hB11 := hB11.ext e121
    replace hR := hR.ext e121
    replace G := grown_trans G (Ext.to_grown e121 _)
    replace hn31 := hn31.ext e121
    replace ha32 := ha32.ext e121
    replace hB42 := hB42.ext e121
    replace hB74 := hB74.ext e121
    replace hn109 := hn109.ext e121
    replace ha110 := ha110.ext e121
    refine Gq.st 0 rfl (by kernel_rfl) rfl .plain rfl (fun _ _ _ h => h) ⟨hB42, hB74⟩ (fun w' x => Still.loadAgg agg26 rfl x.1 rfl) ?_
    refine Gq.st 1 rfl (by kernel_rfl) rfl .plain rfl (fun _ _ _ h => h) ⟨hB42, hB74⟩ (fun w' x => Still.loadAgg agg26 rfl x.2 rfl) ?_
    refine Gq.st 2 rfl (by kernel_rfl) rfl .plain rfl (fun _ _ _ h => h) ⟨hB42, hB74⟩ (fun w' x => Still.move rfl) ?_
    refine Gq.one 3 rfl (by kernel_rfl) ?_
    refine Sq.lit sl56 rfl rfl .plain rfl rfl (one_cons rfl (one_cons rfl (one_cons rfl (one_cons rfl (one_cons rfl (one_cons rfl (one_cons rfl (one_cons rfl (one_cons rfl (one_cons rfl (one_cons rfl one_nil))))))))))) (fun b123 w124 e125 hlo126 ho127 _ => ?_)
    replace ho127 := ho127 w120.heap.size (Nat.le_refl _)
    have hs129 := Below.size e125
    replace E := E.trans e125
    replace hB4 := hB4.ext e125
    replace hB11 := hB11.ext e125
    replace hR := hR.ext e125
    replace G := grown_trans G (Ext.to_grown e125 _)
    replace hn31 := hn31.ext e125
    replace ha32 := ha32.ext e125
    replace hB42 := hB42.ext e125
    replace hB74 := hB74.ext e125
    replace hn109 := hn109.ext e125
    replace ha110 := ha110.ext e125
    refine Sq.nil ?_
    refine Eq.goes (fun _ => ⟨hB42, hB74⟩) ?_
    refine Gq.one 4 rfl (by kernel_rfl) ?_
    refine Sq.call fn47 .plain rfl rfl (num_c _ _ _ _ _ _ hR (hb.go G) hbl (by omega) _ [0, 1, 2, 0, 1, 2, 0, 1, 2, 3, -1] (Own.row ho127) (by simp)) ?_
    rintro _ w131 ⟨⟨p132, hp135, hB134, g133⟩, ⟨k136, rfl, hm137⟩⟩
    have hs138 := World.grownBy.size g133
    have hs139 := Below.size E
    have hs140 := World.grownBy.size G
    have hs141 := World.grownBy.size g133
    replace E := E.grown g133 (fun k hk => by injection hk with hk; subst hk; omega)
    replace hB4 := hB4.grown g133 (by intro h; injection h with h; omega)
    replace hB11 := hB11.grown g133 (by intro h; injection h with h; omega)
    replace hn31 := hn31.stored g133 hR (by decide) (by decide)
    replace ha32 := ha32.stored g133 hR (by decide)
    replace hB42 := hB42.grown g133 (by intro h; injection h with h; omega)
    replace hB74 := hB74.grown g133 (by intro h; injection h with h; omega)
    replace hn109 := hn109.stored g133 hR (by decide) (by decide)
    replace ha110 := ha110.stored g133 hR (by decide)
    simp only [List.mem_cons, List.not_mem_nil, or_false] at hm137
    refine Sq.nil ?_
    refine Eq.goes (fun _ => ⟨hB42, hB74⟩) ?_
    refine Gq.one 5 rfl (by kernel_rfl) ?_
    refine Sq.storeAgg agg26 .plain rfl rfl (one_cons rfl (one_cons (Rows.one hn31) (one_cons (Row.one ha32) one_nil))) hB4 rfl rfl (fun w142 g143 hB144 => ?_)
    have hs145 := World.grownBy.size g143
    replace E := E.grown g143 (fun k hk => by injection hk with hk; subst hk; omega)
    replace hB11 := hB11.grown g143 (by intro h; injection h with h; omega)
    replace hn31 := hn31.stored g143 hB4 (by decide) (by decide)
    replace ha32 := ha32.stored g143 hB4 (by decide)
    replace hB42 := hB42.grown g143 (by intro h; injection h with h; omega)
    replace hB74 := hB74.grown g143 (by intro h; injection h with h; omega)
    replace hn109 := hn109.stored g143 hB4 (by decide) (by decide)
    replace ha110 := ha110.stored g143 hB4 (by decide)
    replace hB4 := hB144
    refine Sq.nil ?_
    refine Eq.goes (fun _ => ⟨hB42, hB74⟩) ?_
    refine Gq.one 6 rfl (by kernel_rfl) ?_
    refine Sq.storeAgg agg26 .plain rfl rfl (one_cons rfl (one_cons (Rows.one hn109) (one_cons (Row.one ha110) one_nil))) hB11 rfl rfl (fun w146 g147 hB148 => ?_)
    have hs149 := World.grownBy.size g147
    replace E := E.grown g147 (fun k hk => by injection hk with hk; subst hk; omega)
    replace hB4 := hB4.grown g147 (by intro h; injection h with h; omega)
    replace hn31 := hn31.stored g147 hB11 (by decide) (by decide)
    replace ha32 := ha32.stored g147 hB11 (by decide)
    replace hB42 := hB42.grown g147 (by intro h; injection h with h; omega)
    replace hB74 := hB74.grown g147 (by intro h; injection h with h; omega)
    replace hn109 := hn109.stored g147 hB11 (by decide) (by decide)
    replace ha110 := ha110.stored g147 hB11 (by decide)
    replace hB11 := hB148
    refine Sq.nil ?_
    refine Eq.goes (fun _ => ⟨hB42, hB74⟩) ?_
    refine Gq.one 7 rfl (by kernel_rfl) ?_
    refine Sq.assign .plain rfl rfl ?_
    refine Sq.nil ?_
    refine Eq.goes (fun h => absurd h (by decide)) ?_
    refine Gq.done (by kernel_rfl) ?_
    refine Eq.next ?_
    refine Cq.ret ?_
    refine Eq.retCCT rfl rfl rfl rfl agg26 agg26 hB4 hB11 rfl rfl ?_
    exact ⟨⟨_, _, _, _, _, rfl, ⟨_, _, rfl, hn31, ha32⟩, ⟨_, _, rfl, hn109, ha110⟩, by first | exact (Small.of hv111).mono (by omega) | exact Small.mono hv111 (by omega) | exact (Small.of hv65).mono (by omega) | exact Small.mono hv65 (by omega) | exact (Small.of hv33).mono (by omega) | exact Small.mono hv33 (by omega), by first | exact (Small.of hv111).mono (by omega) | exact Small.mono hv111 (by omega) | exact (Small.of hv65).mono (by omega) | exact Small.mono hv65 (by omega) | exact (Small.of hv33).mono (by omega) | exact Small.mono hv33 (by omega), by omega⟩, E⟩
  refine Sq.assign .plain rfl rfl ?_
  refine Sq.nil ?_
  refine Eq.next ?_
  refine Cq.els rfl ?_
  refine Cq.seq ?_
  refine Cq.region ?_
  refine Sq.eql .plain rfl rfl rfl ?_
  refine Sq.part (fun c150 => ?_) (fun c150 => ?_)
  · refine Sq.assign .plain rfl rfl ?_
    refine Sq.nil ?_
    refine Eq.next ?_
    refine Cq.thn rfl ?_
    refine Cq.region ?_
    refine Sq.move .plain rfl rfl ?_
    refine Sq.call fn45 .plain rfl rfl (l3Big_c _ _ _ _ _ _ hR (hb.go G) hbl (by omega) ) ?_
    rintro _ w152 ⟨⟨p153, hp156, hB155, g154⟩, ⟨a157, ⟨nx158, ac159, rfl, hn160, ha161⟩, hv162⟩⟩
    have hs163 := World.grownBy.size g154
    have hs164 := Below.size E
    have hs165 := World.grownBy.size G
    have hs166 := World.grownBy.size g154
    replace E := E.grown g154 (fun k hk => by injection hk with hk; subst hk; omega)
    replace hB4 := hB4.grown g154 (by intro h; injection h with h; omega)
    replace hB11 := hB11.grown g154 (by intro h; injection h with h; omega)
    replace G := grown_trans G g154
    replace hB42 := hB42.grown g154 (by intro h; injection h with h; omega)
    replace hn63 := hn63.stored g154 hR (by decide) (by decide)
    replace ha64 := ha64.stored g154 hR (by decide)
    replace hB74 := hB74.grown g154 (by intro h; injection h with h; omega)
    replace hR := hB155
    refine Sq.storeAgg agg26 .plain rfl rfl (one_cons rfl (one_cons (Rows.one (OwnRows.rows hn160)) (one_cons (Row.one (Own.row ha161)) one_nil))) hB42 rfl rfl (fun w167 g168 hB169 => ?_)
    have hs170 := World.grownBy.size g168
    replace E := E.grown g168 (fun k hk => by injection hk with hk; subst hk; omega)
    replace hB4 := hB4.grown g168 (by intro h; injection h with h; omega)
    replace hB11 := hB11.grown g168 (by intro h; injection h with h; omega)
    replace hR := hR.grown g168 (by intro h; injection h with h; omega)
    replace G := grown_far G g168 (fun k hk => by injection hk with hk; subst hk; omega)
    replace hn63 := hn63.stored g168 hB42 (by decide) (by decide)
    replace ha64 := ha64.stored g168 hB42 (by decide)
    replace hB74 := hB74.grown g168 (by intro h; injection h with h; omega)
    replace hn160 := hn160.stored g168 hB42 (by decide) (by decide)
    replace ha161 := ha161.stored g168 hB42 (by decide)
    replace hB42 := hB169
    refine Sq.nil ?_
    refine Eq.end ?_
    refine Eq.next ?_
    refine Cq.seq ?_
    refine Cq.drawS 7 (fun w' => Blk w' b39 26 [Value.int .i64 a157.al, nx158, ac159] ∧ Blk w' b71 26 [Value.int .i64 a60.al, nx61, ac62]) mixed (⟨hB42, hB74⟩) (fun w171 e172 hS => ?_)
    clear hS
    have hs173 := Below.size e172
    replace E := E.trans e172
    replace hB4 := hB4.ext e172
    replace hB11 := hB11.ext e172
    replace hR := hR.ext e172
    replace G := grown_trans G (Ext.to_grown e172 _)
    replace hB42 := hB42.ext e172
    replace hn63 := hn63.ext e172
    replace ha64 := ha64.ext e172
    replace hB74 := hB74.ext e172
    replace hn160 := hn160.ext e172
    replace ha161 := ha161.ext e172
    refine Gq.st 0 rfl (by kernel_rfl) rfl .plain rfl (fun _ _ _ h => h) ⟨hB42, hB74⟩ (fun w' x => Still.loadAgg agg26 rfl x.1 rfl) ?_
    refine Gq.st 1 rfl (by kernel_rfl) rfl .plain rfl (fun _ _ _ h => h) ⟨hB42, hB74⟩ (fun w' x => Still.loadAgg agg26 rfl x.2 rfl) ?_
    refine Gq.st 2 rfl (by kernel_rfl) rfl .plain rfl (fun _ _ _ h => h) ⟨hB42, hB74⟩ (fun w' x => Still.move rfl) ?_
    refine Gq.one 3 rfl (by kernel_rfl) ?_
    refine Sq.lit sl56 rfl rfl .plain rfl rfl (one_cons rfl (one_cons rfl (one_cons rfl (one_cons rfl (one_cons rfl (one_cons rfl (one_cons rfl (one_cons rfl (one_cons rfl (one_cons rfl (one_cons rfl one_nil))))))))))) (fun b174 w175 e176 hlo177 ho178 _ => ?_)
    replace ho178 := ho178 w171.heap.size (Nat.le_refl _)
    have hs180 := Below.size e176
    replace E := E.trans e176
    replace hB4 := hB4.ext e176
    replace hB11 := hB11.ext e176
    replace hR := hR.ext e176
    replace G := grown_trans G (Ext.to_grown e176 _)
    replace hB42 := hB42.ext e176
    replace hn63 := hn63.ext e176
    replace ha64 := ha64.ext e176
    replace hB74 := hB74.ext e176
    replace hn160 := hn160.ext e176
    replace ha161 := ha161.ext e176
    refine Sq.nil ?_
    refine Eq.goes (fun _ => ⟨hB42, hB74⟩) ?_
    refine Gq.one 4 rfl (by kernel_rfl) ?_
    refine Sq.call fn47 .plain rfl rfl (num_c _ _ _ _ _ _ hR (hb.go G) hbl (by omega) _ [0, 1, 2, 0, 1, 2, 0, 1, 2, 3, -1] (Own.row ho178) (by simp)) ?_
    rintro _ w182 ⟨⟨p183, hp186, hB185, g184⟩, ⟨k187, rfl, hm188⟩⟩
    have hs189 := World.grownBy.size g184
    have hs190 := Below.size E
    have hs191 := World.grownBy.size G
    have hs192 := World.grownBy.size g184
    replace E := E.grown g184 (fun k hk => by injection hk with hk; subst hk; omega)
    replace hB4 := hB4.grown g184 (by intro h; injection h with h; omega)
    replace hB11 := hB11.grown g184 (by intro h; injection h with h; omega)
    replace hB42 := hB42.grown g184 (by intro h; injection h with h; omega)
    replace hn63 := hn63.stored g184 hR (by decide) (by decide)
    replace ha64 := ha64.stored g184 hR (by decide)
    replace hB74 := hB74.grown g184 (by intro h; injection h with h; omega)
    replace hn160 := hn160.stored g184 hR (by decide) (by decide)
    replace ha161 := ha161.stored g184 hR (by decide)
    simp only [List.mem_cons, List.not_mem_nil, or_false] at hm188
    refine Sq.nil ?_
    refine Eq.goes (fun _ => ⟨hB42, hB74⟩) ?_
    refine Gq.one 5 rfl (by kernel_rfl) ?_
    refine Sq.storeAgg agg26 .plain rfl rfl (one_cons rfl (one_cons (Rows.one (OwnRows.rows hn160)) (one_cons (Row.one (Own.row ha161)) one_nil))) hB4 rfl rfl (fun w193 g194 hB195 => ?_)
    have hs196 := World.grownBy.size g194
    replace E := E.grown g194 (fun k hk => by injection hk with hk; subst hk; omega)
    replace hB11 := hB11.grown g194 (by intro h; injection h with h; omega)
    replace hB42 := hB42.grown g194 (by intro h; injection h with h; omega)
    replace hn63 := hn63.stored g194 hB4 (by decide) (by decide)
    replace ha64 := ha64.stored g194 hB4 (by decide)
    replace hB74 := hB74.grown g194 (by intro h; injection h with h; omega)
    replace hn160 := hn160.stored g194 hB4 (by decide) (by decide)
    replace ha161 := ha161.stored g194 hB4 (by decide)
    replace hB4 := hB195
    refine Sq.nil ?_
    refine Eq.goes (fun _ => ⟨hB42, hB74⟩) ?_
    refine Gq.one 6 rfl (by kernel_rfl) ?_
    refine Sq.storeAgg agg26 .plain rfl rfl (one_cons rfl (one_cons (Rows.one hn63) (one_cons (Row.one ha64) one_nil))) hB11 rfl rfl (fun w197 g198 hB199 => ?_)
    have hs200 := World.grownBy.size g198
    replace E := E.grown g198 (fun k hk => by injection hk with hk; subst hk; omega)
    replace hB4 := hB4.grown g198 (by intro h; injection h with h; omega)
    replace hB42 := hB42.grown g198 (by intro h; injection h with h; omega)
    replace hn63 := hn63.stored g198 hB11 (by decide) (by decide)
    replace ha64 := ha64.stored g198 hB11 (by decide)
    replace hB74 := hB74.grown g198 (by intro h; injection h with h; omega)
    replace hn160 := hn160.stored g198 hB11 (by decide) (by decide)
    replace ha161 := ha161.stored g198 hB11 (by decide)
    replace hB11 := hB199
    refine Sq.nil ?_
    refine Eq.goes (fun _ => ⟨hB42, hB74⟩) ?_
    refine Gq.one 7 rfl (by kernel_rfl) ?_
    refine Sq.assign .plain rfl rfl ?_
    refine Sq.nil ?_
    refine Eq.goes (fun h => absurd h (by decide)) ?_
    refine Gq.done (by kernel_rfl) ?_
    refine Eq.next ?_
    refine Cq.ret ?_
    refine Eq.retCCT rfl rfl rfl rfl agg26 agg26 hB4 hB11 rfl rfl ?_
    exact ⟨⟨_, _, _, _, _, rfl, ⟨_, _, rfl, (OwnRows.rows hn160), (Own.row ha161)⟩, ⟨_, _, rfl, hn63, ha64⟩, by first | exact (Small.of hv162).mono (by omega) | exact Small.mono hv162 (by omega) | exact (Small.of hv111).mono (by omega) | exact Small.mono hv111 (by omega) | exact (Small.of hv65).mono (by omega) | exact Small.mono hv65 (by omega) | exact (Small.of hv33).mono (by omega) | exact Small.mono hv33 (by omega), by first | exact (Small.of hv162).mono (by omega) | exact Small.mono hv162 (by omega) | exact (Small.of hv111).mono (by omega) | exact Small.mono hv111 (by omega) | exact (Small.of hv65).mono (by omega) | exact Small.mono hv65 (by omega) | exact (Small.of hv33).mono (by omega) | exact Small.mono hv33 (by omega), by omega⟩, E⟩
  refine Sq.assign .plain rfl rfl ?_
  refine Sq.nil ?_
  refine Eq.next ?_
  refine Cq.els rfl ?_
  refine Cq.seq ?_
  refine Cq.region ?_
  refine Sq.eql .plain rfl rfl rfl ?_
  refine Sq.part (fun c201 => ?_) (fun c201 => ?_)
  · refine Sq.assign .plain rfl rfl ?_
    refine Sq.nil ?_
    refine Eq.next ?_
    refine Cq.thn rfl ?_
    refine Cq.region ?_
    refine Sq.move .plain rfl rfl ?_
    refine Sq.move .plain rfl rfl ?_
    refine Sq.loadAgg agg26 .plain rfl rfl hB42 rfl ?_
    refine Sq.call fn46 .plain rfl rfl (l3Wrong_c _ _ _ _ _ _ hR (hb.go G) hbl (by omega) a28 _ _ hn31 ha32 _ (by omega) hv33) ?_
    rintro _ w203 ⟨⟨p204, hp207, hB206, g205⟩, ⟨a208, ⟨nx209, ac210, rfl, hn211, ha212⟩, hv213⟩⟩
    have hs214 := World.grownBy.size g205
    have hs215 := Below.size E
    have hs216 := World.grownBy.size G
    have hs217 := World.grownBy.size g205
    replace E := E.grown g205 (fun k hk => by injection hk with hk; subst hk; omega)
    replace hB4 := hB4.grown g205 (by intro h; injection h with h; omega)
    replace hB11 := hB11.grown g205 (by intro h; injection h with h; omega)
    replace G := grown_trans G g205
    replace hB42 := hB42.grown g205 (by intro h; injection h with h; omega)
    replace hn63 := hn63.stored g205 hR (by decide) (by decide)
    replace ha64 := ha64.stored g205 hR (by decide)
    replace hB74 := hB74.grown g205 (by intro h; injection h with h; omega)
    replace hR := hB206
    refine Sq.call fn46 .plain rfl rfl (l3Wrong_c _ _ _ _ _ _ hR (hb.go G) hbl (by omega) a208 _ _ hn211 ha212 _ (by omega) hv213) ?_
    rintro _ w219 ⟨⟨p220, hp223, hB222, g221⟩, ⟨a224, ⟨nx225, ac226, rfl, hn227, ha228⟩, hv229⟩⟩
    have hs230 := World.grownBy.size g221
    have hs231 := Below.size E
    have hs232 := World.grownBy.size G
    have hs233 := World.grownBy.size g221
    replace E := E.grown g221 (fun k hk => by injection hk with hk; subst hk; omega)
    replace hB4 := hB4.grown g221 (by intro h; injection h with h; omega)
    replace hB11 := hB11.grown g221 (by intro h; injection h with h; omega)
    replace G := grown_trans G g221
    replace hB42 := hB42.grown g221 (by intro h; injection h with h; omega)
    replace hn63 := hn63.stored g221 hR (by decide) (by decide)
    replace ha64 := ha64.stored g221 hR (by decide)
    replace hB74 := hB74.grown g221 (by intro h; injection h with h; omega)
    replace hR := hB222
    refine Sq.storeAgg agg26 .plain rfl rfl (one_cons rfl (one_cons (Rows.one hn227) (one_cons (Row.one ha228) one_nil))) hB42 rfl rfl (fun w234 g235 hB236 => ?_)
    have hs237 := World.grownBy.size g235
    replace E := E.grown g235 (fun k hk => by injection hk with hk; subst hk; omega)
    replace hB4 := hB4.grown g235 (by intro h; injection h with h; omega)
    replace hB11 := hB11.grown g235 (by intro h; injection h with h; omega)
    replace hR := hR.grown g235 (by intro h; injection h with h; omega)
    replace G := grown_far G g235 (fun k hk => by injection hk with hk; subst hk; omega)
    replace hn63 := hn63.stored g235 hB42 (by decide) (by decide)
    replace ha64 := ha64.stored g235 hB42 (by decide)
    replace hB74 := hB74.grown g235 (by intro h; injection h with h; omega)
    replace hn227 := hn227.stored g235 hB42 (by decide) (by decide)
    replace ha228 := ha228.stored g235 hB42 (by decide)
    replace hB42 := hB236
    refine Sq.nil ?_
    refine Eq.end ?_
    refine Eq.next ?_
    refine Cq.seq ?_
    refine Cq.drawS 7 (fun w' => Blk w' b39 26 [Value.int .i64 a224.al, nx225, ac226] ∧ Blk w' b71 26 [Value.int .i64 a60.al, nx61, ac62]) mixed (⟨hB42, hB74⟩) (fun w238 e239 hS => ?_)
    clear hS
    have hs240 := Below.size e239
    replace E := E.trans e239
    replace hB4 := hB4.ext e239
    replace hB11 := hB11.ext e239
    replace hR := hR.ext e239
    replace G := grown_trans G (Ext.to_grown e239 _)
    replace hB42 := hB42.ext e239
    replace hn63 := hn63.ext e239
    replace ha64 := ha64.ext e239
    replace hB74 := hB74.ext e239
    replace hn227 := hn227.ext e239
    replace ha228 := ha228.ext e239
    refine Gq.st 0 rfl (by kernel_rfl) rfl .plain rfl (fun _ _ _ h => h) ⟨hB42, hB74⟩ (fun w' x => Still.loadAgg agg26 rfl x.1 rfl) ?_
    refine Gq.st 1 rfl (by kernel_rfl) rfl .plain rfl (fun _ _ _ h => h) ⟨hB42, hB74⟩ (fun w' x => Still.loadAgg agg26 rfl x.2 rfl) ?_
    refine Gq.st 2 rfl (by kernel_rfl) rfl .plain rfl (fun _ _ _ h => h) ⟨hB42, hB74⟩ (fun w' x => Still.move rfl) ?_
    refine Gq.one 3 rfl (by kernel_rfl) ?_
    refine Sq.lit sl56 rfl rfl .plain rfl rfl (one_cons rfl (one_cons rfl (one_cons rfl (one_cons rfl (one_cons rfl (one_cons rfl (one_cons rfl (one_cons rfl (one_cons rfl (one_cons rfl (one_cons rfl one_nil))))))))))) (fun b241 w242 e243 hlo244 ho245 _ => ?_)
    replace ho245 := ho245 w238.heap.size (Nat.le_refl _)
    have hs247 := Below.size e243
    replace E := E.trans e243
    replace hB4 := hB4.ext e243
    replace hB11 := hB11.ext e243
    replace hR := hR.ext e243
    replace G := grown_trans G (Ext.to_grown e243 _)
    replace hB42 := hB42.ext e243
    replace hn63 := hn63.ext e243
    replace ha64 := ha64.ext e243
    replace hB74 := hB74.ext e243
    replace hn227 := hn227.ext e243
    replace ha228 := ha228.ext e243
    refine Sq.nil ?_
    refine Eq.goes (fun _ => ⟨hB42, hB74⟩) ?_
    refine Gq.one 4 rfl (by kernel_rfl) ?_
    refine Sq.call fn47 .plain rfl rfl (num_c _ _ _ _ _ _ hR (hb.go G) hbl (by omega) _ [0, 1, 2, 0, 1, 2, 0, 1, 2, 3, -1] (Own.row ho245) (by simp)) ?_
    rintro _ w249 ⟨⟨p250, hp253, hB252, g251⟩, ⟨k254, rfl, hm255⟩⟩
    have hs256 := World.grownBy.size g251
    have hs257 := Below.size E
    have hs258 := World.grownBy.size G
    have hs259 := World.grownBy.size g251
    replace E := E.grown g251 (fun k hk => by injection hk with hk; subst hk; omega)
    replace hB4 := hB4.grown g251 (by intro h; injection h with h; omega)
    replace hB11 := hB11.grown g251 (by intro h; injection h with h; omega)
    replace hB42 := hB42.grown g251 (by intro h; injection h with h; omega)
    replace hn63 := hn63.stored g251 hR (by decide) (by decide)
    replace ha64 := ha64.stored g251 hR (by decide)
    replace hB74 := hB74.grown g251 (by intro h; injection h with h; omega)
    replace hn227 := hn227.stored g251 hR (by decide) (by decide)
    replace ha228 := ha228.stored g251 hR (by decide)
    simp only [List.mem_cons, List.not_mem_nil, or_false] at hm255
    refine Sq.nil ?_
    refine Eq.goes (fun _ => ⟨hB42, hB74⟩) ?_
    refine Gq.one 5 rfl (by kernel_rfl) ?_
    refine Sq.storeAgg agg26 .plain rfl rfl (one_cons rfl (one_cons (Rows.one hn227) (one_cons (Row.one ha228) one_nil))) hB4 rfl rfl (fun w260 g261 hB262 => ?_)
    have hs263 := World.grownBy.size g261
    replace E := E.grown g261 (fun k hk => by injection hk with hk; subst hk; omega)
    replace hB11 := hB11.grown g261 (by intro h; injection h with h; omega)
    replace hB42 := hB42.grown g261 (by intro h; injection h with h; omega)
    replace hn63 := hn63.stored g261 hB4 (by decide) (by decide)
    replace ha64 := ha64.stored g261 hB4 (by decide)
    replace hB74 := hB74.grown g261 (by intro h; injection h with h; omega)
    replace hn227 := hn227.stored g261 hB4 (by decide) (by decide)
    replace ha228 := ha228.stored g261 hB4 (by decide)
    replace hB4 := hB262
    refine Sq.nil ?_
    refine Eq.goes (fun _ => ⟨hB42, hB74⟩) ?_
    refine Gq.one 6 rfl (by kernel_rfl) ?_
    refine Sq.storeAgg agg26 .plain rfl rfl (one_cons rfl (one_cons (Rows.one hn63) (one_cons (Row.one ha64) one_nil))) hB11 rfl rfl (fun w264 g265 hB266 => ?_)
    have hs267 := World.grownBy.size g265
    replace E := E.grown g265 (fun k hk => by injection hk with hk; subst hk; omega)
    replace hB4 := hB4.grown g265 (by intro h; injection h with h; omega)
    replace hB42 := hB42.grown g265 (by intro h; injection h with h; omega)
    replace hn63 := hn63.stored g265 hB11 (by decide) (by decide)
    replace ha64 := ha64.stored g265 hB11 (by decide)
    replace hB74 := hB74.grown g265 (by intro h; injection h with h; omega)
    replace hn227 := hn227.stored g265 hB11 (by decide) (by decide)
    replace ha228 := ha228.stored g265 hB11 (by decide)
    replace hB11 := hB266
    refine Sq.nil ?_
    refine Eq.goes (fun _ => ⟨hB42, hB74⟩) ?_
    refine Gq.one 7 rfl (by kernel_rfl) ?_
    refine Sq.assign .plain rfl rfl ?_
    refine Sq.nil ?_
    refine Eq.goes (fun h => absurd h (by decide)) ?_
    refine Gq.done (by kernel_rfl) ?_
    refine Eq.next ?_
    refine Cq.ret ?_
    refine Eq.retCCT rfl rfl rfl rfl agg26 agg26 hB4 hB11 rfl rfl ?_
    exact ⟨⟨_, _, _, _, _, rfl, ⟨_, _, rfl, hn227, ha228⟩, ⟨_, _, rfl, hn63, ha64⟩, by first | exact (Small.of hv229).mono (by omega) | exact Small.mono hv229 (by omega) | exact (Small.of hv213).mono (by omega) | exact Small.mono hv213 (by omega) | exact (Small.of hv162).mono (by omega) | exact Small.mono hv162 (by omega) | exact (Small.of hv111).mono (by omega) | exact Small.mono hv111 (by omega) | exact (Small.of hv65).mono (by omega) | exact Small.mono hv65 (by omega) | exact (Small.of hv33).mono (by omega) | exact Small.mono hv33 (by omega), by first | exact (Small.of hv229).mono (by omega) | exact Small.mono hv229 (by omega) | exact (Small.of hv213).mono (by omega) | exact Small.mono hv213 (by omega) | exact (Small.of hv162).mono (by omega) | exact Small.mono hv162 (by omega) | exact (Small.of hv111).mono (by omega) | exact Small.mono hv111 (by omega) | exact (Small.of hv65).mono (by omega) | exact Small.mono hv65 (by omega) | exact (Small.of hv33).mono (by omega) | exact Small.mono hv33 (by omega), by omega⟩, E⟩
  refine Sq.assign .plain rfl rfl ?_
  refine Sq.nil ?_
  refine Eq.next ?_
  refine Cq.els rfl ?_
  refine Cq.skip ?_
  refine Eq.end ?_
  refine Eq.next ?_
  refine Cq.seq ?_
  refine Cq.drawS 7 (fun w' => Blk w' b39 26 [Value.int .i64 a28.al, nx29, ac30] ∧ Blk w' b71 26 [Value.int .i64 a60.al, nx61, ac62]) mixed (⟨hB42, hB74⟩) (fun w268 e269 hS => ?_)
  clear hS
  have hs270 := Below.size e269
  replace E := E.trans e269
  replace hB4 := hB4.ext e269
  replace hB11 := hB11.ext e269
  replace hR := hR.ext e269
  replace G := grown_trans G (Ext.to_grown e269 _)
  replace hn31 := hn31.ext e269
  replace ha32 := ha32.ext e269
  replace hB42 := hB42.ext e269
  replace hn63 := hn63.ext e269
  replace ha64 := ha64.ext e269
  replace hB74 := hB74.ext e269
  refine Gq.st 0 rfl (by kernel_rfl) rfl .plain rfl (fun _ _ _ h => h) ⟨hB42, hB74⟩ (fun w' x => Still.loadAgg agg26 rfl x.1 rfl) ?_
  refine Gq.st 1 rfl (by kernel_rfl) rfl .plain rfl (fun _ _ _ h => h) ⟨hB42, hB74⟩ (fun w' x => Still.loadAgg agg26 rfl x.2 rfl) ?_
  refine Gq.st 2 rfl (by kernel_rfl) rfl .plain rfl (fun _ _ _ h => h) ⟨hB42, hB74⟩ (fun w' x => Still.move rfl) ?_
  refine Gq.one 3 rfl (by kernel_rfl) ?_
  refine Sq.lit sl56 rfl rfl .plain rfl rfl (one_cons rfl (one_cons rfl (one_cons rfl (one_cons rfl (one_cons rfl (one_cons rfl (one_cons rfl (one_cons rfl (one_cons rfl (one_cons rfl (one_cons rfl one_nil))))))))))) (fun b271 w272 e273 hlo274 ho275 _ => ?_)
  replace ho275 := ho275 w268.heap.size (Nat.le_refl _)
  have hs277 := Below.size e273
  replace E := E.trans e273
  replace hB4 := hB4.ext e273
  replace hB11 := hB11.ext e273
  replace hR := hR.ext e273
  replace G := grown_trans G (Ext.to_grown e273 _)
  replace hn31 := hn31.ext e273
  replace ha32 := ha32.ext e273
  replace hB42 := hB42.ext e273
  replace hn63 := hn63.ext e273
  replace ha64 := ha64.ext e273
  replace hB74 := hB74.ext e273
  refine Sq.nil ?_
  refine Eq.goes (fun _ => ⟨hB42, hB74⟩) ?_
  refine Gq.one 4 rfl (by kernel_rfl) ?_
  refine Sq.call fn47 .plain rfl rfl (num_c _ _ _ _ _ _ hR (hb.go G) hbl (by omega) _ [0, 1, 2, 0, 1, 2, 0, 1, 2, 3, -1] (Own.row ho275) (by simp)) ?_
  rintro _ w279 ⟨⟨p280, hp283, hB282, g281⟩, ⟨k284, rfl, hm285⟩⟩
  have hs286 := World.grownBy.size g281
  have hs287 := Below.size E
  have hs288 := World.grownBy.size G
  have hs289 := World.grownBy.size g281
  replace E := E.grown g281 (fun k hk => by injection hk with hk; subst hk; omega)
  replace hB4 := hB4.grown g281 (by intro h; injection h with h; omega)
  replace hB11 := hB11.grown g281 (by intro h; injection h with h; omega)
  replace hn31 := hn31.stored g281 hR (by decide) (by decide)
  replace ha32 := ha32.stored g281 hR (by decide)
  replace hB42 := hB42.grown g281 (by intro h; injection h with h; omega)
  replace hn63 := hn63.stored g281 hR (by decide) (by decide)
  replace ha64 := ha64.stored g281 hR (by decide)
  replace hB74 := hB74.grown g281 (by intro h; injection h with h; omega)
  simp only [List.mem_cons, List.not_mem_nil, or_false] at hm285
  refine Sq.nil ?_
  refine Eq.goes (fun _ => ⟨hB42, hB74⟩) ?_
  refine Gq.one 5 rfl (by kernel_rfl) ?_
  refine Sq.storeAgg agg26 .plain rfl rfl (one_cons rfl (one_cons (Rows.one hn31) (one_cons (Row.one ha32) one_nil))) hB4 rfl rfl (fun w290 g291 hB292 => ?_)
  have hs293 := World.grownBy.size g291
  replace E := E.grown g291 (fun k hk => by injection hk with hk; subst hk; omega)
  replace hB11 := hB11.grown g291 (by intro h; injection h with h; omega)
  replace hn31 := hn31.stored g291 hB4 (by decide) (by decide)
  replace ha32 := ha32.stored g291 hB4 (by decide)
  replace hB42 := hB42.grown g291 (by intro h; injection h with h; omega)
  replace hn63 := hn63.stored g291 hB4 (by decide) (by decide)
  replace ha64 := ha64.stored g291 hB4 (by decide)
  replace hB74 := hB74.grown g291 (by intro h; injection h with h; omega)
  replace hB4 := hB292
  refine Sq.nil ?_
  refine Eq.goes (fun _ => ⟨hB42, hB74⟩) ?_
  refine Gq.one 6 rfl (by kernel_rfl) ?_
  refine Sq.storeAgg agg26 .plain rfl rfl (one_cons rfl (one_cons (Rows.one hn63) (one_cons (Row.one ha64) one_nil))) hB11 rfl rfl (fun w294 g295 hB296 => ?_)
  have hs297 := World.grownBy.size g295
  replace E := E.grown g295 (fun k hk => by injection hk with hk; subst hk; omega)
  replace hB4 := hB4.grown g295 (by intro h; injection h with h; omega)
  replace hn31 := hn31.stored g295 hB11 (by decide) (by decide)
  replace ha32 := ha32.stored g295 hB11 (by decide)
  replace hB42 := hB42.grown g295 (by intro h; injection h with h; omega)
  replace hn63 := hn63.stored g295 hB11 (by decide) (by decide)
  replace ha64 := ha64.stored g295 hB11 (by decide)
  replace hB74 := hB74.grown g295 (by intro h; injection h with h; omega)
  replace hB11 := hB296
  refine Sq.nil ?_
  refine Eq.goes (fun _ => ⟨hB42, hB74⟩) ?_
  refine Gq.one 7 rfl (by kernel_rfl) ?_
  refine Sq.assign .plain rfl rfl ?_
  refine Sq.nil ?_
  refine Eq.goes (fun h => absurd h (by decide)) ?_
  refine Gq.done (by kernel_rfl) ?_
  refine Eq.next ?_
  refine Cq.ret ?_
  refine Eq.retCCT rfl rfl rfl rfl agg26 agg26 hB4 hB11 rfl rfl ?_
  exact ⟨⟨_, _, _, _, _, rfl, ⟨_, _, rfl, hn31, ha32⟩, ⟨_, _, rfl, hn63, ha64⟩, by first | exact (Small.of hv229).mono (by omega) | exact Small.mono hv229 (by omega) | exact (Small.of hv213).mono (by omega) | exact Small.mono hv213 (by omega) | exact (Small.of hv162).mono (by omega) | exact Small.mono hv162 (by omega) | exact (Small.of hv111).mono (by omega) | exact Small.mono hv111 (by omega) | exact (Small.of hv65).mono (by omega) | exact Small.mono hv65 (by omega) | exact (Small.of hv33).mono (by omega) | exact Small.mono hv33 (by omega), by first | exact (Small.of hv229).mono (by omega) | exact Small.mono hv229 (by omega) | exact (Small.of hv213).mono (by omega) | exact Small.mono hv213 (by omega) | exact (Small.of hv162).mono (by omega) | exact Small.mono hv162 (by omega) | exact (Small.of hv111).mono (by omega) | exact Small.mono hv111 (by omega) | exact (Small.of hv65).mono (by omega) | exact Small.mono hv65 (by omega) | exact (Small.of hv33).mono (by omega) | exact Small.mono hv33 (by omega), by omega⟩, E⟩
end Go.Proofs.Ytdejmfkpohgamaa
set_option linter.unusedSimpArgs false
set_option linter.unusedVariables false
namespace Go.Proofs.Ytdejmfkpohgamaa
def lexLt : List Int → List Int → Prop
  | [], [] => False
  | [], _ :: _ => True
  | _ :: _, [] => False
  | x :: v, y :: w => x < y ∨ (x = y ∧ lexLt v w)
def sl (v w : List Int) : Prop := v.length < w.length ∨ (v.length = w.length ∧ lexLt v w)
def sle (v w : List Int) : Prop := v = w ∨ sl v w
theorem lexLt_irrefl : ∀ v, ¬ lexLt v v
  | [] => id
  | x :: v => fun h => by
    rcases h with h | ⟨_, h⟩
    · omega
    · exact lexLt_irrefl v h
theorem lexLt_trans : ∀ {u v w : List Int}, lexLt u v → lexLt v w → lexLt u w
  | [], [], _, h, _ => h.elim
  | [], _ :: _, [], _, h => h.elim
  | [], _ :: _, _ :: _, _, _ => trivial
  | _ :: _, [], _, h, _ => h.elim
  | _ :: _, _ :: _, [], _, h => h.elim
  | x :: u, y :: v, z :: w, h, h' => by
    rcases h with h | ⟨rfl, h⟩
    · rcases h' with h' | ⟨rfl, h'⟩
      · exact .inl (by omega)
      · exact .inl h
    · rcases h' with h' | ⟨rfl, h'⟩
      · exact .inl h'
      · exact .inr ⟨rfl, lexLt_trans h h'⟩
theorem lexLt_snoc : ∀ {v w : List Int} (x y : Int), v.length = w.length → lexLt v w → lexLt (v ++ [x]) (w ++ [y])
  | [], [], _, _, _, h => h.elim
  | [], _ :: _, _, _, h, _ => by simp at h
  | _ :: _, [], _, _, h, _ => by simp at h
  | a :: v, b :: w, x, y, h, h' => by
    rcases h' with h' | ⟨rfl, h'⟩
    · exact .inl h'
    · exact .inr ⟨rfl, lexLt_snoc x y (by simpa using h) h'⟩
theorem lexLt_last : ∀ (v : List Int) {x y : Int}, x < y → lexLt (v ++ [x]) (v ++ [y])
  | [], _, _, h => .inl h
  | a :: v, _, _, h => .inr ⟨rfl, lexLt_last v h⟩
theorem sl_irrefl (v : List Int) : ¬ sl v v := fun h => h.elim (by omega) (fun h => lexLt_irrefl v h.2)
theorem sl_trans {u v w : List Int} (h : sl u v) (h' : sl v w) : sl u w := by
  rcases h with h | ⟨h1, h2⟩ <;> rcases h' with h' | ⟨h3, h4⟩
  · exact .inl (by omega)
  · exact .inl (by omega)
  · exact .inl (by omega)
  · exact .inr ⟨by omega, lexLt_trans h2 h4⟩
theorem sl_snoc {v w : List Int} (x y : Int) (h : sl v w) : sl (v ++ [x]) (w ++ [y]) := by
  rcases h with h | ⟨h1, h2⟩
  · exact .inl (by simpa using h)
  · exact .inr ⟨by simpa using h1, lexLt_snoc x y h1 h2⟩
theorem sl_last (v : List Int) {x y : Int} (h : x < y) : sl (v ++ [x]) (v ++ [y]) := .inr ⟨by simp, lexLt_last v h⟩
theorem sl_nil (v : List Int) (x : Int) : sl [] (v ++ [x]) := .inl (by simp)
theorem sle_trans {u v w : List Int} (h : sle u v) (h' : sle v w) : sle u w := by
  rcases h with rfl | h
  · exact h'
  · rcases h' with rfl | h'
    · exact .inr h
    · exact .inr (sl_trans h h')
theorem sle_antisymm {v w : List Int} (h : sle v w) (h' : sle w v) : v = w := by
  rcases h with h | h
  · exact h
  · rcases h' with h' | h'
    · exact h'.symm
    · exact absurd (sl_trans h h') (sl_irrefl v)
theorem sle_snoc {v w : List Int} (x : Int) (h : sle v w) : sle (v ++ [x]) (w ++ [x]) := by
  rcases h with rfl | h
  · exact .inl rfl
  · exact .inr (sl_snoc x x h)
def nodeOf {α : Type} (f : α → Int → α) (s : α) (w : List Int) : α := w.foldl f s
theorem nodeOf_snoc {α : Type} (f : α → Int → α) (s : α) (w : List Int) (x : Int) : nodeOf f s (w ++ [x]) = f (nodeOf f s w) x := by
  unfold nodeOf
  rw [List.foldl_append]
  rfl
section
variable {α : Type} [DecidableEq α]
def wadd (f : α → Int → α) (s : α) (ws : List (List Int)) (v : List Int) : List (List Int) := if nodeOf f s v ∈ ws.map (nodeOf f s) then ws else ws ++ [v]
def wround (f : α → Int → α) (s : α) (w : List Int) (ws : List (List Int)) (Ls : List Int) : List (List Int) := Ls.foldl (fun ws l => wadd f s ws (w ++ [l])) ws
def bfsw (f : α → Int → α) (s : α) (L : List Int) : Nat → List (List Int)
  | 0 => [[]]
  | i + 1 => match (bfsw f s L i)[i]? with
    | some w => wround f s w (bfsw f s L i) L
    | none => bfsw f s L i
variable {f : α → Int → α} {s : α} {L : List Int}
theorem wadd_map (ws : List (List Int)) (v : List Int) : (wadd f s ws v).map (nodeOf f s) = addNode (ws.map (nodeOf f s)) (nodeOf f s v) := by
  unfold wadd addNode
  split
  · rfl
  · rw [List.map_append]; rfl
theorem wround_map (w : List Int) : ∀ (Ls : List Int) (ws : List (List Int)), (wround f s w ws Ls).map (nodeOf f s) = addAll (ws.map (nodeOf f s)) (Ls.map (f (nodeOf f s w)))
  | [], ws => rfl
  | l :: Ls, ws => by
    show (wround f s w (wadd f s ws (w ++ [l])) Ls).map (nodeOf f s) = _
    rw [wround_map w Ls, wadd_map, nodeOf_snoc]
    rfl
theorem bfsw_map (i : Nat) : (bfsw f s L i).map (nodeOf f s) = bfs f s L i := by
  induction i with
  | zero => rfl
  | succ i ih =>
    rw [bfsw, bfs, ← ih, List.getElem?_map]
    cases hq : (bfsw f s L i)[i]? with
    | none => rfl
    | some w => exact wround_map w L _
theorem bfsw_length (i : Nat) : (bfsw f s L i).length = (bfs f s L i).length := by rw [← bfsw_map, List.length_map]
theorem wadd_prefix (ws : List (List Int)) (v : List Int) : ws <+: wadd f s ws v := by
  unfold wadd
  split
  · exact List.prefix_refl _
  · exact List.prefix_append _ _
theorem wadd_mem {ws : List (List Int)} {u v : List Int} (h : v ∈ wadd f s ws u) : v ∈ ws ∨ v = u := by
  unfold wadd at h
  split at h
  · exact .inl h
  · rcases List.mem_append.1 h with h | h
    · exact .inl h
    · exact .inr (List.mem_singleton.1 h)
theorem wadd_self {ws : List (List Int)} {u : List Int} (h : nodeOf f s u ∉ ws.map (nodeOf f s)) : u ∈ wadd f s ws u := by
  unfold wadd
  rw [if_neg h]
  simp
theorem wadd_sorted {ws : List (List Int)} {u : List Int} (h : ws.Pairwise sl) (hb : ∀ v ∈ ws, sl v u) : (wadd f s ws u).Pairwise sl := by
  unfold wadd
  split
  · exact h
  · refine List.pairwise_append.2 ⟨h, by simp, fun v hv u' hu => ?_⟩
    rw [List.mem_singleton.1 hu]
    exact hb v hv
theorem wround_prefix (w : List Int) : ∀ (Ls : List Int) (ws : List (List Int)), ws <+: wround f s w ws Ls
  | [], ws => List.prefix_refl _
  | l :: Ls, ws => (wadd_prefix ws (w ++ [l])).trans (wround_prefix w Ls _)
theorem bfsw_prefix1 (i : Nat) : bfsw f s L i <+: bfsw f s L (i + 1) := by
  rw [bfsw]
  split
  · exact wround_prefix _ _ _
  · exact List.prefix_refl _
theorem wround_mem (w : List Int) : ∀ (Ls : List Int) (ws : List (List Int)) {v : List Int}, v ∈ wround f s w ws Ls → v ∈ ws ∨ ∃ l ∈ Ls, v = w ++ [l]
  | [], ws, v, h => .inl h
  | l :: Ls, ws, v, h => by
    rcases wround_mem w Ls (wadd f s ws (w ++ [l])) h with h1 | ⟨l', h1, h2⟩
    · rcases wadd_mem h1 with h1 | h1
      · exact .inl h1
      · exact .inr ⟨l, by simp, h1⟩
    · exact .inr ⟨l', by simp [h1], h2⟩
theorem wround_sorted (w : List Int) : ∀ (Ls : List Int) (ws : List (List Int)), Ls.Pairwise (· < ·) → ws.Pairwise sl → (∀ v ∈ ws, ∀ l ∈ Ls, sl v (w ++ [l])) → (wround f s w ws Ls).Pairwise sl
  | [], ws, _, h, _ => h
  | l :: Ls, ws, hL, h, hb => by
    obtain ⟨h1, h2⟩ := List.pairwise_cons.1 hL
    refine wround_sorted w Ls (wadd f s ws (w ++ [l])) h2 (wadd_sorted h fun v hv => hb v hv l (by simp)) ?_
    intro v hv l' hl'
    rcases wadd_mem hv with hv | rfl
    · exact hb v hv l' (by simp [hl'])
    · exact sl_last w (h1 l' hl')
theorem wround_cover (w : List Int) : ∀ (Ls : List Int) (ws : List (List Int)), Ls.Pairwise (· < ·) → (∀ v ∈ ws, ∀ l ∈ Ls, sl v (w ++ [l])) → ∀ l ∈ Ls, ∃ v ∈ wround f s w ws Ls, nodeOf f s v = nodeOf f s (w ++ [l]) ∧ sle v (w ++ [l])
  | [], ws, _, _, l, hl => by cases hl
  | l0 :: Ls, ws, hL, hb, l, hl => by
    obtain ⟨h1, h2⟩ := List.pairwise_cons.1 hL
    have hb' : ∀ v ∈ wadd f s ws (w ++ [l0]), ∀ l ∈ Ls, sl v (w ++ [l]) := by
      intro v hv l' hl'
      rcases wadd_mem hv with hv | rfl
      · exact hb v hv l' (by simp [hl'])
      · exact sl_last w (h1 l' hl')
    rcases List.mem_cons.1 hl with rfl | hl
    · by_cases hin : nodeOf f s (w ++ [l]) ∈ ws.map (nodeOf f s)
      · obtain ⟨v, hv, e⟩ := List.mem_map.1 hin
        exact ⟨v, (wround_prefix w (l :: Ls) ws).subset hv, e, .inr (hb v hv l (by simp))⟩
      · exact ⟨w ++ [l], (wround_prefix w Ls (wadd f s ws (w ++ [l]))).subset (wadd_self hin), rfl, .inl rfl⟩
    · exact wround_cover w Ls (wadd f s ws (w ++ [l0])) h2 hb' l hl
theorem bfsw_inv (hL : L.Pairwise (· < ·)) (i : Nat) : (bfsw f s L i).Pairwise sl ∧ (∀ w, (bfsw f s L i)[i]? = some w → ∀ v ∈ bfsw f s L i, ∀ x, sl v (w ++ [x])) ∧
    (∀ j w, j < i → (bfsw f s L i)[j]? = some w → ∀ l ∈ L, ∃ v ∈ bfsw f s L i, nodeOf f s v = nodeOf f s (w ++ [l]) ∧ sle v (w ++ [l])) ∧ ∀ v ∈ bfsw f s L i, (∀ x ∈ v, x ∈ L) ∧ (v = [] ∨ ∃ u ∈ bfsw f s L i, ∃ l ∈ L, v = u ++ [l]) := by
  induction i with
  | zero =>
    refine ⟨by simp [bfsw], fun w hw v hv x => ?_, fun j w hj => by omega, fun v hv => ?_⟩
    · simp only [bfsw, List.mem_singleton] at hv
      subst hv
      exact sl_nil w x
    · simp only [bfsw, List.mem_singleton] at hv
      subst hv
      exact ⟨by simp, .inl rfl⟩
  | succ i ih =>
    obtain ⟨h1, h2, h3, h4⟩ := ih
    have hp := bfsw_prefix1 (f := f) (s := s) (L := L) i
    cases hq : (bfsw f s L i)[i]? with
    | none =>
      have e : bfsw f s L (i + 1) = bfsw f s L i := by rw [bfsw, hq]
      have hl : (bfsw f s L i).length ≤ i := by
        rcases Nat.lt_or_ge i (bfsw f s L i).length with h | h
        · rw [List.getElem?_eq_getElem h] at hq; cases hq
        · exact h
      rw [e]
      refine ⟨h1, fun w hw => ?_, fun j w hj hw => ?_, h4⟩
      · rw [List.getElem?_eq_none (by omega)] at hw; cases hw
      · rcases Nat.lt_or_ge j i with h | h
        · exact h3 j w h hw
        · rw [List.getElem?_eq_none (by omega)] at hw; cases hw
    | some w =>
      have e : bfsw f s L (i + 1) = wround f s w (bfsw f s L i) L := by rw [bfsw, hq]
      have hb := h2 w hq
      have hi := (List.getElem?_eq_some_iff.1 hq).1
      have hs : (bfsw f s L (i + 1)).Pairwise sl := by rw [e]; exact wround_sorted w L _ hL h1 (fun v hv l _ => hb v hv l)
      have hat : ∀ j, j < (bfsw f s L i).length → (bfsw f s L (i + 1))[j]? = (bfsw f s L i)[j]? := by
        intro j hj
        obtain ⟨t, ht⟩ := hp
        rw [← ht, List.getElem?_append_left hj]
      have hwi : (bfsw f s L (i + 1))[i]? = some w := by rw [hat i hi, hq]
      have hmem : ∀ v ∈ bfsw f s L (i + 1), v ∈ bfsw f s L i ∨ ∃ l ∈ L, v = w ++ [l] := fun v hv => by rw [e] at hv; exact wround_mem w L _ hv
      refine ⟨hs, fun w' hw' v hv x => ?_, fun j u hj hu l hl => ?_, fun v hv => ?_⟩
      · have hlt : sl w w' := by
          obtain ⟨g1, g2⟩ := List.getElem?_eq_some_iff.1 hwi
          obtain ⟨g3, g4⟩ := List.getElem?_eq_some_iff.1 hw'
          rw [← g2, ← g4]
          exact List.pairwise_iff_getElem.1 hs i (i + 1) g1 g3 (by omega)
        rcases hmem v hv with h | ⟨l, hl, rfl⟩
        · exact sl_trans (hb v h x) (sl_snoc x x hlt)
        · exact sl_snoc l x hlt
      · rcases Nat.lt_or_ge j i with h | h
        · rw [hat j (by omega)] at hu
          obtain ⟨v, g1, g2, g3⟩ := h3 j u h hu l hl
          exact ⟨v, hp.subset g1, g2, g3⟩
        · obtain rfl : j = i := by omega
          rw [hwi] at hu
          obtain rfl := Option.some.inj hu
          obtain ⟨v, g1, g2, g3⟩ := wround_cover (f := f) (s := s) w L _ hL (fun v hv l _ => hb v hv l) l hl
          exact ⟨v, by rw [e]; exact g1, g2, g3⟩
      · rcases hmem v hv with h | ⟨l, hl, rfl⟩
        · refine ⟨(h4 v h).1, ?_⟩
          rcases (h4 v h).2 with h5 | ⟨u, h5, l, h6, h7⟩
          · exact .inl h5
          · exact .inr ⟨u, hp.subset h5, l, h6, h7⟩
        · have hw := List.mem_of_getElem? hq
          refine ⟨fun x hx => ?_, .inr ⟨w, hp.subset hw, l, hl, rfl⟩⟩
          rcases List.mem_append.1 hx with h | h
          · exact (h4 w hw).1 x h
          · rw [List.mem_singleton.1 h]; exact hl
def ordw (f : α → Int → α) (s : α) (L : List Int) : List (List Int) := bfsw f s L (many 0)
theorem ordw_map : (ordw f s L).map (nodeOf f s) = ord f s L := bfsw_map _
theorem ordw_length : (ordw f s L).length = (ord f s L).length := bfsw_length _
theorem ordw_sorted (hL : L.Pairwise (· < ·)) : (ordw f s L).Pairwise sl := (bfsw_inv hL _).1
theorem ordw_over (hL : L.Pairwise (· < ·)) {v : List Int} (hv : v ∈ ordw f s L) : ∀ x ∈ v, x ∈ L := ((bfsw_inv hL _).2.2.2 v hv).1
theorem ordw_parent (hL : L.Pairwise (· < ·)) {u : List Int} {l : Int} (hv : u ++ [l] ∈ ordw f s L) : u ∈ ordw f s L := by
  rcases ((bfsw_inv hL _).2.2.2 _ hv).2 with h | ⟨u', h1, l', _, h3⟩
  · simp at h
  · have := List.append_inj' h3 rfl
    rw [this.1]; exact h1
theorem ordw_nil : [] ∈ ordw f s L := by
  have : ∀ i, [] ∈ bfsw f s L i := by
    intro i
    induction i with
    | zero => simp [bfsw]
    | succ i ih => exact (bfsw_prefix1 i).subset ih
  exact this _
theorem ordw_node {v w : List Int} (hv : v ∈ ordw f s L) (hw : w ∈ ordw f s L) (e : nodeOf f s v = nodeOf f s w) : v = w := by
  have h := ord_nodup (f := f) (s := s) (L := L)
  rw [← ordw_map] at h
  obtain ⟨i, hi, rfl⟩ := List.mem_iff_getElem.1 hv
  obtain ⟨j, hj, rfl⟩ := List.mem_iff_getElem.1 hw
  rcases Nat.lt_trichotomy i j with hij | rfl | hij
  · exact absurd (by rw [List.getElem_map, List.getElem_map]; exact e) (List.pairwise_iff_getElem.1 h i j (by simpa using hi) (by simpa using hj) hij)
  · rfl
  · exact absurd (by rw [List.getElem_map, List.getElem_map]; exact e.symm) (List.pairwise_iff_getElem.1 h j i (by simpa using hj) (by simpa using hi) hij)
theorem ordw_cover (hL : L.Pairwise (· < ·)) (hlen : (ord f s L).length ≤ 200) : ∀ (n : Nat) (v : List Int), v.length = n → (∀ x ∈ v, x ∈ L) → ∃ w ∈ ordw f s L, nodeOf f s w = nodeOf f s v ∧ sle w v := by
  intro n
  induction n with
  | zero =>
    intro v hv _
    obtain rfl := List.eq_nil_of_length_eq_zero hv
    exact ⟨[], ordw_nil, rfl, .inl rfl⟩
  | succ n ih =>
    intro v hv hx
    rcases List.eq_nil_or_concat v with rfl | ⟨u, l, rfl⟩
    · simp at hv
    · rw [List.concat_eq_append] at hv hx ⊢
      obtain ⟨w, h1, h2, h3⟩ := ih u (by simpa using hv) (fun x h => hx x (by simp [h]))
      obtain ⟨j, hj, hw⟩ := List.mem_iff_getElem.1 h1
      have hj2 : j < many 0 := by
        have := ordw_length (f := f) (s := s) (L := L)
        rw [many_eq]
        omega
      obtain ⟨w', g1, g2, g3⟩ := (bfsw_inv (f := f) (s := s) hL (many 0)).2.2.1 j w hj2 (by rw [← hw]; exact List.getElem?_eq_getElem hj) l (hx l (by simp))
      refine ⟨w', g1, ?_, sle_trans g3 (sle_snoc l h3)⟩
      rw [g2, nodeOf_snoc, nodeOf_snoc, h2]
def firstOf (f : α → Int → α) (s : α) (L : List Int) (G : α → Bool) : Option (List Int) := (ordw f s L).find? fun w => G (nodeOf f s w)
theorem first_some (hL : L.Pairwise (· < ·)) (hlen : (ord f s L).length ≤ 200) {G : α → Bool} {w : List Int} (h : firstOf f s L G = some w) : w ∈ ordw f s L ∧ G (nodeOf f s w) = true ∧ ∀ v : List Int, (∀ x ∈ v, x ∈ L) → G (nodeOf f s v) = true → sle w v := by
  obtain ⟨hg, aas, bs, e, has⟩ := List.find?_eq_some_iff_append.1 h
  refine ⟨List.mem_of_find?_eq_some h, hg, fun v hv hgv => ?_⟩
  obtain ⟨w', h1, h2, h3⟩ := ordw_cover hL hlen _ v rfl hv
  refine sle_trans ?_ h3
  rw [e] at h1
  rcases List.mem_append.1 h1 with h1 | h1
  · have := has w' h1
    rw [h2, hgv] at this
    simp at this
  · rcases List.mem_cons.1 h1 with rfl | h1
    · exact .inl rfl
    · have hs := ordw_sorted (f := f) (s := s) hL
      rw [e] at hs
      exact .inr ((List.pairwise_cons.1 (List.pairwise_append.1 hs).2.1).1 w' h1)
theorem first_none (hL : L.Pairwise (· < ·)) (hlen : (ord f s L).length ≤ 200) {G : α → Bool} (h : firstOf f s L G = none) : ∀ v : List Int, (∀ x ∈ v, x ∈ L) → G (nodeOf f s v) = false := by
  intro v hv
  obtain ⟨w', h1, h2, _⟩ := ordw_cover hL hlen _ v rfl hv
  have := List.find?_eq_none.1 h w' h1
  rw [h2] at this
  simpa using this
theorem ordw_take (hL : L.Pairwise (· < ·)) : ∀ (n : Nat) {v : List Int}, v ∈ ordw f s L → v.length - n ≤ v.length → v.take (v.length - n) ∈ ordw f s L := by
  intro n
  induction n with
  | zero => intro v hv _; rw [Nat.sub_zero, List.take_length]; exact hv
  | succ n ih =>
    intro v hv _
    have h := ih hv (by omega)
    rcases Nat.lt_or_ge n v.length with hlt | hge
    · have e : v.take (v.length - n) = v.take (v.length - (n + 1)) ++ [v[v.length - (n + 1)]] := by
        have h9 : v.length - n = (v.length - (n + 1)) + 1 := by omega
        rw [h9, List.take_succ_eq_append_getElem (by omega)]
      rw [e] at h
      exact ordw_parent hL h
    · rw [show v.length - (n + 1) = v.length - n by omega]; exact h
theorem ordw_pre (hL : L.Pairwise (· < ·)) {v : List Int} (hv : v ∈ ordw f s L) (k : Nat) : v.take k ∈ ordw f s L := by
  rcases Nat.lt_or_ge k v.length with h | h
  · have := ordw_take hL (v.length - k) hv (by omega)
    rwa [show v.length - (v.length - k) = k by omega] at this
  · rw [List.take_of_length_le h]; exact hv
theorem ordw_short (hL : L.Pairwise (· < ·)) {v : List Int} (hv : v ∈ ordw f s L) : v.length + 1 ≤ (ord f s L).length := by
  rw [← ordw_length]
  have h := nodup_len (xs := (List.range (v.length + 1)).map fun k => v.take k) (U := ordw f s L) (by
    refine List.pairwise_map.2 (List.Pairwise.imp_of_mem ?_ List.pairwise_lt_range)
    intro a b ha hb hab e
    have h1 := congrArg List.length e
    rw [List.length_take, List.length_take] at h1
    have := List.mem_range.1 hb
    omega) (fun q hq => by
    obtain ⟨k, _, rfl⟩ := List.mem_map.1 hq
    exact ordw_pre hL hv k)
  simpa using h
theorem first_self (hL : L.Pairwise (· < ·)) (hlen : (ord f s L).length ≤ 200) {w : List Int} (hw : w ∈ ordw f s L) : firstOf f s L (fun q => decide (q = nodeOf f s w)) = some w := by
  cases h : firstOf f s L (fun q => decide (q = nodeOf f s w)) with
  | none =>
    have := first_none hL hlen h w (ordw_over hL hw)
    simp at this
  | some u =>
    obtain ⟨h1, h2, _⟩ := first_some hL hlen h
    rw [ordw_node h1 hw (by simpa using h2)]
end
theorem letters_sorted (b : Int) : (letters b).Pairwise (· < ·) := by
  unfold letters lettersTo
  refine List.Pairwise.filter _ ?_
  refine List.pairwise_map.2 (List.Pairwise.imp ?_ List.pairwise_lt_range)
  intro x y h
  omega
end Go.Proofs.Ytdejmfkpohgamaa
set_option linter.unusedSimpArgs false
set_option linter.unusedVariables false
namespace Go.Proofs.Ytdejmfkpohgamaa
open Go.RowKit
def txb (w : List Int) : List UInt8 := w.map fun x => UInt8.ofNat (97 + x).toNat
def txt (w : List Int) : ByteArray := ⟨(txb w).toArray⟩
theorem txb_rev (w : List Int) : (txb w.reverse).reverse = txb w := by simp [txb]
def stepV (r : Int × Int × Value) : List Value := [.int .i64 r.1, .int .i64 r.2.1, r.2.2]
def rows3 (rs : List (Int × Int × Value)) : List (List Value) := rs.map stepV
theorem rows3_length (rs : List (Int × Int × Value)) : (rows3 rs).length = rs.length := List.length_map _
theorem rows3_snoc (rs : List (Int × Int × Value)) (r : Int × Int × Value) : rows3 (rs ++ [r]) = rows3 rs ++ [[.int .i64 r.1, .int .i64 r.2.1, r.2.2]] := by simp [rows3, stepV]
section
variable {w w' : World} {B : Nat} {e : TypeId} {v : Value} {rs : List (Int × Int × Value)}
theorem Wid.triple (h : Wid w B e 3 v (rows3 rs)) {i : Int} {r : Int × Int × Value} (h0 : 0 ≤ i) (hr : rs[i.toNat]? = some r) : ∃ g c, v = .slice (some ⟨g, 0, none⟩) rs.length c ∧ (i.toNat < rs.length) ∧ w.cell? ⟨g, i.toNat * 3 + 0, none⟩ = some (.int .i64 r.1) ∧ w.cell? ⟨g, i.toNat * 3 + 1, none⟩ = some (.int .i64 r.2.1) ∧ w.cell? ⟨g, i.toNat * 3 + 2, none⟩ = some r.2.2 := by
  have hi := (List.getElem?_eq_some_iff.1 hr).1
  obtain ⟨g, c, hv, _, _, hc⟩ := h.at h0 (by rw [rows3_length]; omega)
  rw [rows3_length] at hv
  have e1 : (rows3 rs).getD i.toNat [] = stepV r := by
    unfold rows3
    rw [List.getD_eq_getElem?_getD, List.getElem?_map, hr]
    rfl
  rw [e1] at hc
  exact ⟨g, c, hv, hi, hc 0 (by decide), hc 1 (by decide), hc 2 (by decide)⟩
end
def Link (ws : List (List Int)) (p l : Int) (v : List Int) : Prop := (v = [] ∧ p = -1) ∨ ∃ u, v = u ++ [l] ∧ 0 ≤ p ∧ ws[p.toNat]? = some u
theorem Link.more {ws : List (List Int)} {p l : Int} {v : List Int} (h : Link ws p l v) (us : List (List Int)) : Link (ws ++ us) p l v := by
  rcases h with h | ⟨u, h1, h2, h3⟩
  · exact .inl h
  · exact .inr ⟨u, h1, h2, by rw [List.getElem?_append_left (List.getElem?_eq_some_iff.1 h3).1]; exact h3⟩
structure Trail (w : World) (I : TypeId) (f : Int → Int → Int) (s : Int) (ws : List (List Int)) (rs : List (Int × Int × Value)) : Prop where
  len : rs.length = ws.length
  row : ∀ (j : Nat) (v : List Int), ws[j]? = some v → ∃ p l fv, rs[j]? = some (p, l, fv) ∧ Link ws p l v ∧ Ints w I fv [nodeOf f s v]
  lets : ∀ v ∈ ws, ∀ x ∈ v, 0 ≤ x ∧ x < 6
section
variable {w w' : World} {I : TypeId} {f : Int → Int → Int} {s : Int} {ws : List (List Int)} {rs : List (Int × Int × Value)}
theorem Trail.map (h : Trail w I f s ws rs) (k : ∀ v xs, Ints w I v xs → Ints w' I v xs) : Trail w' I f s ws rs :=
  ⟨h.len, fun j v hv => by
    obtain ⟨p, l, fv, h1, h2, h3⟩ := h.row j v hv
    exact ⟨p, l, fv, h1, h2, k _ _ h3⟩, h.lets⟩
theorem Trail.ext (h : Trail w I f s ws rs) (x : Ext w w') : Trail w' I f s ws rs := h.map fun _ _ h => h.ext x
theorem Trail.owned {B : Nat} {t : TypeId} {u : Value} {us : List Value} (h : Trail w I f s ws rs) (ho : Own w B t u us) (hg : w.grownBy w' u.ownBlock) (hne : t ≠ I) : Trail w' I f s ws rs := h.map fun _ _ h => Row.owned h ho hg hne
theorem Trail.stored {g : Nat} {t : TypeId} {cs : List Value} (h : Trail w I f s ws rs) (hg : w.grownBy w' (some g)) (hb : Blk w g t cs) (hne : t ≠ I) : Trail w' I f s ws rs := h.map fun _ _ h => Row.stored h hg hb hne
theorem Trail.wid {B n : Nat} {e : TypeId} {u : Value} {rows : List (List Value)} (h : Trail w I f s ws rs) (ho : Wid w B e n u rows) (hg : w.grownBy w' u.ownBlock) (hne : e ≠ I) : Trail w' I f s ws rs := h.map fun _ _ h => Row.wid h ho hg hne
theorem Trail.nil (w : World) (I : TypeId) (f : Int → Int → Int) (s : Int) : Trail w I f s [] [] := ⟨rfl, by simp, by simp⟩
theorem Trail.snoc (h : Trail w I f s ws rs) {p l : Int} {fv : Value} {v : List Int} (hl : Link ws p l v) (hf : Ints w I fv [nodeOf f s v]) (hv : ∀ x ∈ v, 0 ≤ x ∧ x < 6) : Trail w I f s (ws ++ [v]) (rs ++ [(p, l, fv)]) := by
  refine ⟨by simp [h.len], fun j u hu => ?_, fun u hu => ?_⟩
  · rcases Nat.lt_or_ge j ws.length with hj | hj
    · rw [List.getElem?_append_left hj] at hu
      obtain ⟨p', l', fv', h1, h2, h3⟩ := h.row j u hu
      exact ⟨p', l', fv', by rw [List.getElem?_append_left (by rw [h.len]; exact hj)]; exact h1, h2.more _, h3⟩
    · have hj2 := (List.getElem?_eq_some_iff.1 hu).1
      rw [List.length_append, List.length_singleton] at hj2
      obtain rfl : j = ws.length := by omega
      rw [List.getElem?_append_right (Nat.le_refl _), Nat.sub_self] at hu
      have hu' : v = u := by simpa using hu
      subst hu'
      exact ⟨p, l, fv, by rw [List.getElem?_append_right (by rw [h.len]; exact Nat.le_refl _), h.len, Nat.sub_self]; rfl, hl.more _, hf⟩
  · rcases List.mem_append.1 hu with h' | h'
    · exact h.lets u h'
    · rw [List.mem_singleton.1 h']; exact hv
end
def seenOf (n : Nat) (ns : List Int) : List Bool := (List.range n).map fun (i : Nat) => decide ((i : Int) ∈ ns)
theorem seenOf_length (n : Nat) (ns : List Int) : (seenOf n ns).length = n := by simp [seenOf]
theorem seenOf_nil (n : Nat) : seenOf n [] = List.replicate n false := by
  apply List.ext_getElem <;> simp [seenOf]
theorem seenOf_at {n : Nat} {ns : List Int} {q : Int} (hq : 0 ≤ q ∧ q < n) : (seenOf n ns).getD q.toNat false = decide (q ∈ ns) := by
  have h : q.toNat < n := by omega
  have e : ((q.toNat : Nat) : Int) = q := Int.toNat_of_nonneg hq.1
  simp [seenOf, List.getD_eq_getElem?_getD, h, e]
theorem seenOf_set {n : Nat} {ns : List Int} {q : Int} (hq : 0 ≤ q) : (seenOf n ns).set q.toNat true = seenOf n (ns ++ [q]) := by
  apply List.ext_getElem
  · simp [seenOf]
  · intro i h1 h2
    rw [List.getElem_set]
    by_cases h : q.toNat = i
    · have : ((i : Nat) : Int) = q := by omega
      simp [seenOf, h, this]
    · have : ((i : Nat) : Int) ≠ q := by omega
      simp [seenOf, h, this]
theorem Own.seen0 {w : World} {B n : Nat} {e : TypeId} {v : Value} (h : Own w B e v (List.replicate n (Value.bool false))) : Own w B e v ((seenOf n []).map Value.bool) := by rw [seenOf_nil, List.map_replicate]; exact h
theorem seen_n {w : World} {B n : Nat} {e : TypeId} {v : Value} {m : Int} (hm : m = n) (h : Own w B e v (List.replicate m.toNat (Value.bool false))) : Own w B e v (List.replicate n (Value.bool false)) := by
  subst hm; exact h
def NClo (P : Program) (w0 : World) (I : TypeId) (fv : Value) (D : Int → Prop) (f : Int → Int → Int) : Prop :=
  ∃ k fn, ∃ cs : List Value, fv = .func (.func k) #[] cs.toArray ∧ Fn P k fn ∧ ∀ w q x, Ext w0 w → D q → 0 ≤ x ∧ x < 6 → Ret P k ([Value.int .i64 q, Value.int .i64 x, Value.slice none 0 0] ++ cs).toArray w fun v w' => Own w' w.heap.size I v [Value.int .i64 (f q x)] ∧ Ext w w'
def GClo (P : Program) (w0 : World) (gv : Value) (D : Int → Prop) (G : Int → Bool) : Prop :=
  ∃ k fn, ∃ cs : List Value, gv = .func (.func k) #[] cs.toArray ∧ Fn P k fn ∧ ∀ w q, Ext w0 w → D q → Ret P k ([Value.int .i64 q] ++ cs).toArray w fun v w' => v = .bool (G q) ∧ Ext w w'
theorem NClo.up {P : Program} {w0 w1 : World} {I : TypeId} {fv : Value} {D : Int → Prop} {f : Int → Int → Int} (h : NClo P w0 I fv D f) (x : Ext w0 w1) : NClo P w1 I fv D f := by
  obtain ⟨k, fn, cs, h1, h2, h3⟩ := h
  exact ⟨k, fn, cs, h1, h2, fun w q y hw hq hy => h3 w q y (x.trans hw) hq hy⟩
theorem GClo.up {P : Program} {w0 w1 : World} {gv : Value} {D : Int → Prop} {G : Int → Bool} (h : GClo P w0 gv D G) (x : Ext w0 w1) : GClo P w1 gv D G := by
  obtain ⟨k, fn, cs, h1, h2, h3⟩ := h
  exact ⟨k, fn, cs, h1, h2, fun w q hw hq => h3 w q (x.trans hw) hq⟩
def BClo (P : Program) (w0 : World) (gv : Value) (g : Bool → Bool → Bool) : Prop :=
  ∃ k fn, ∃ cs : List Value, gv = .func (.func k) #[] cs.toArray ∧ Fn P k fn ∧ ∀ w x y, Ext w0 w → Ret P k ([Value.bool x, Value.bool y] ++ cs).toArray w fun v w' => v = .bool (g x y) ∧ Ext w w'
theorem BClo.up {P : Program} {w0 w1 : World} {gv : Value} {g : Bool → Bool → Bool} (h : BClo P w0 gv g) (x : Ext w0 w1) : BClo P w1 gv g := by
  obtain ⟨k, fn, cs, h1, h2, h3⟩ := h
  exact ⟨k, fn, cs, h1, h2, fun w a b hw => h3 w a b (x.trans hw)⟩
theorem BClo.one {P : Program} {w0 : World} {gv : Value} {g : Bool → Bool → Bool} (h : BClo P w0 gv g) : gv.oneCell' = true := by
  obtain ⟨k, fn, cs, h1, _⟩ := h
  rw [h1]; rfl
def SMem (wb w : World) (I Bo LB S LS GT : TypeId) (B bs bt bg : Nat) (gv : Value) (n : Nat) (f : Int → Int → Int) (s : Int) (ws : List (List Int)) : Prop :=
  ∃ sv tv rs, Blk w bs LB [sv] ∧ Own w B Bo sv ((seenOf n (ws.map (nodeOf f s))).map Value.bool) ∧ Blk w bt LS [tv] ∧ Wid w B S 3 tv (rows3 rs) ∧ Trail w I f s ws rs ∧ Blk w bg GT [gv] ∧ Ext wb w ∧ wb.heap.size ≤ B ∧ wb.heap.size ≤ bs ∧ wb.heap.size ≤ bt ∧ B ≤ w.heap.size
section
variable {wb w w' : World} {I Bo LB S LS GT : TypeId} {B bs bt bg n : Nat} {gv : Value} {f : Int → Int → Int} {s : Int} {ws : List (List Int)}
theorem SMem.ext (h : SMem wb w I Bo LB S LS GT B bs bt bg gv n f s ws) (x : Ext w w') : SMem wb w' I Bo LB S LS GT B bs bt bg gv n f s ws := by
  obtain ⟨sv, tv, rs, h1, h2, h3, h4, h5, h6, h7, h8, h9, h10, h11⟩ := h
  exact ⟨sv, tv, rs, h1.ext x, h2.ext x, h3.ext x, h4.ext x, h5.ext x, h6.ext x, h7.trans x, h8, h9, h10, Nat.le_trans h11 (Below.size x)⟩
theorem SMem.base (h : SMem wb w I Bo LB S LS GT B bs bt bg gv n f s ws) : Ext wb w := by
  obtain ⟨sv, tv, rs, h1, h2, h3, h4, h5, h6, h7, h8⟩ := h
  exact h7
end
theorem Wid.one {w : World} {B n : Nat} {e : TypeId} {v : Value} {rows : List (List Value)} (h : Wid w B e n v rows) : v.oneCell' = true := by
  rcases h.cases with ⟨rfl, _⟩ | ⟨g, cap, cs, rfl, _⟩ <;> rfl
theorem Own.snocT {w : World} {B : Nat} {e : TypeId} {v : Value} {t : List Int} {l : Int} (h : Own w B e v ((txb t.reverse).map (fun b => Value.int .u8 (b.toNat : Int)) ++ [Value.int .u8 (97 + l)])) (hl : 0 ≤ l ∧ l < 6) : Own w B e v ((txb (l :: t).reverse).map fun b => Value.int .u8 (b.toNat : Int)) := by
  have e1 : (txb (l :: t).reverse).map (fun b => Value.int .u8 (b.toNat : Int)) = (txb t.reverse).map (fun b => Value.int .u8 (b.toNat : Int)) ++ [Value.int .u8 (97 + l)] := by
    have := u8_of (n := 97 + l) (by omega)
    simp only [txb, List.reverse_cons, List.map_append, List.map_cons, List.map_nil, this]
  rw [e1]; exact h
section
variable {f : Int → Int → Int} {s : Int} {L : List Int} {G : Int → Bool}
def wmid (f : Int → Int → Int) (s : Int) (L : List Int) (i : Nat) (u : List Int) (k : Nat) : List (List Int) := wround f s u (bfsw f s L i) (L.take k)
theorem wmid_succ {i : Nat} {u : List Int} {k : Nat} (hk : k < L.length) : wmid f s L i u (k + 1) = wadd f s (wmid f s L i u k) (u ++ [L.getD k 0]) := by
  unfold wmid wround
  rw [take_snoc 0 hk, List.foldl_append]
  rfl
theorem wmid_done {i : Nat} {u : List Int} {k : Nat} (h : L.length ≤ k) (hu : (bfsw f s L i)[i]? = some u) : wmid f s L i u k = bfsw f s L (i + 1) := by
  rw [bfsw, hu]
  unfold wmid
  rw [List.take_of_length_le h]
theorem wmid_more (i : Nat) (u : List Int) (k : Nat) : bfsw f s L i <+: wmid f s L i u k := wround_prefix _ _ _
theorem wmid_last {i : Nat} {u : List Int} {k : Nat} (hu : (bfsw f s L i)[i]? = some u) : wmid f s L i u k <+: bfsw f s L (i + 1) := by
  rcases Nat.lt_or_ge k L.length with h | h
  · rw [← wmid_done (k := L.length) (Nat.le_refl _) hu]
    unfold wmid wround
    have e : L.take L.length = L.take k ++ L.drop k := by rw [List.take_length, List.take_append_drop]
    rw [e, List.foldl_append]
    exact wround_prefix (f := f) (s := s) u (L.drop k) _
  · rw [wmid_done h hu]; exact List.prefix_refl _
theorem bfsw_more {i j : Nat} (h : i ≤ j) : bfsw f s L i <+: bfsw f s L j := by
  induction j with
  | zero => obtain rfl : i = 0 := by omega
            exact List.prefix_refl _
  | succ j ih =>
    rcases Nat.lt_or_ge i (j + 1) with h1 | h1
    · exact (ih (by omega)).trans (bfsw_prefix1 j)
    · obtain rfl : i = j + 1 := by omega
      exact List.prefix_refl _
theorem wadd_T {ws : List (List Int)} {v : List Int} (h : nodeOf f s v ∈ ws.map (nodeOf f s)) : wadd f s ws v = ws := if_pos h
theorem wadd_F {ws : List (List Int)} {v : List Int} (h : nodeOf f s v ∉ ws.map (nodeOf f s)) : wadd f s ws v = ws ++ [v] := if_neg h
theorem first_found {i : Nat} {u : List Int} {k : Nat} (hu : (bfsw f s L i)[i]? = some u) (hi : i + 1 ≤ 200) (hk : k < L.length) (hG : ∀ v ∈ wmid f s L i u k, G (nodeOf f s v) = false) (hn : nodeOf f s (u ++ [L.getD k 0]) ∉ (wmid f s L i u k).map (nodeOf f s)) (hg : G (nodeOf f s (u ++ [L.getD k 0])) = true) :
    firstOf f s L G = some (u ++ [L.getD k 0]) := by
  have h1 := wmid_last (k := k + 1) hu
  rw [wmid_succ hk, wadd_F hn] at h1
  obtain ⟨t, ht⟩ := h1.trans (bfsw_more (f := f) (s := s) (L := L) (i := i + 1) (j := many 0) (by rw [many_eq]; exact hi))
  unfold firstOf ordw
  rw [← ht, List.append_assoc, List.find?_append, List.find?_eq_none.2 (fun v hv => by rw [hG v hv]; decide), Option.none_or, List.singleton_append]
  exact List.find?_cons_of_pos (p := fun w => G (nodeOf f s w)) hg
theorem first_missed {i : Nat} (hl : (bfsw f s L i).length ≤ i) (hi : i ≤ 200) (hG : ∀ v ∈ bfsw f s L i, G (nodeOf f s v) = false) : firstOf f s L G = none := by
  have e : bfsw f s L (many 0) = bfsw f s L i := by
    have h1 := bfsw_more (f := f) (s := s) (L := L) (i := i) (j := many 0) (by rw [many_eq]; exact hi)
    refine (h1.eq_of_length ?_).symm
    rw [bfsw_length, bfsw_length]
    rw [bfsw_length] at hl
    rw [bfs_stop (j := many 0) hl (by rw [many_eq]; exact hi)]
  unfold firstOf ordw
  rw [e, List.find?_eq_none.2 (fun v hv => by rw [hG v hv]; decide)]
theorem first_here (hg : G s = true) : firstOf f s L G = some [] := by
  obtain ⟨t, ht⟩ := bfsw_more (f := f) (s := s) (L := L) (i := 0) (j := many 0) (Nat.zero_le _)
  unfold firstOf ordw
  rw [← ht]
  have : bfsw f s L 0 = [[]] := rfl
  rw [this]
  simp [nodeOf, hg]
theorem bfsw_lets {i : Nat} (hL : ∀ x ∈ L, 0 ≤ x ∧ x < 6) : ∀ v ∈ bfsw f s L i, ∀ x ∈ v, 0 ≤ x ∧ x < 6 := by
  induction i with
  | zero =>
    intro v hv
    have : v = [] := by simpa [bfsw] using hv
    subst this
    intro x hx; cases hx
  | succ i ih =>
    intro v hv
    rw [bfsw] at hv
    cases h : (bfsw f s L i)[i]? with
    | none => rw [h] at hv; exact ih v hv
    | some u =>
      rw [h] at hv
      rcases wround_mem u L _ hv with h' | ⟨l, hl, rfl⟩
      · exact ih v h'
      · intro x hx
        rcases List.mem_append.1 hx with h1 | h1
        · exact ih u (List.mem_of_getElem? h) x h1
        · rw [List.mem_singleton.1 h1]; exact hL l hl
theorem wadd_miss {ws : List (List Int)} {v : List Int} (h : ∀ u ∈ ws, G (nodeOf f s u) = false) (hf : (!decide (nodeOf f s v ∈ ws.map (nodeOf f s)) && G (nodeOf f s v)) = false) : ∀ u ∈ wadd f s ws v, G (nodeOf f s u) = false := by
  intro u hu
  by_cases hm : nodeOf f s v ∈ ws.map (nodeOf f s)
  · rw [wadd_T hm] at hu; exact h u hu
  · rw [wadd_F hm] at hu
    rcases List.mem_append.1 hu with h1 | h1
    · exact h u h1
    · rw [List.mem_singleton.1 h1]
      simpa [hm] using hf
theorem bfsw_range {n : Nat} {D : Int → Prop} (h0 : D s) (hD : ∀ q, D q → ∀ x ∈ L, D (f q x)) (hn : ∀ q, D q → 0 ≤ q ∧ q < n) (i : Nat) : (bfsw f s L i).length ≤ n := by
  rw [bfsw_length]
  have h1 := nodup_len (U := (List.range n).map fun (i : Nat) => (i : Int)) (bfs_nodup (f := f) (s := s) (L := L) i) (fun q hq => inU.2 (hn q (bfs_all h0 hD i q hq)))
  simpa using h1
theorem bfsw_lenw {i j : Nat} {u : List Int} (h : (bfsw f s L i)[j]? = some u) : u.length ≤ i := by
  have hall : ∀ v ∈ bfsw f s L i, v.length ≤ i := by
    clear h
    induction i with
    | zero =>
      intro v hv
      have : v = [] := by simpa [bfsw] using hv
      subst this
      exact Nat.le_refl _
    | succ i ih =>
      intro v hv
      rw [bfsw] at hv
      cases h : (bfsw f s L i)[i]? with
      | none => rw [h] at hv; exact Nat.le_succ_of_le (ih v hv)
      | some u =>
        rw [h] at hv
        rcases wround_mem u L _ hv with h' | ⟨l, hl, rfl⟩
        · exact Nat.le_succ_of_le (ih v h')
        · have := ih u (List.mem_of_getElem? h)
          simp only [List.length_append, List.length_singleton]
          omega
  exact hall u (List.mem_of_getElem? h)
theorem nodeOf_in {D : Int → Prop} (h0 : D s) (hD : ∀ q, D q → ∀ x ∈ L, D (f q x)) : ∀ (i : Nat), ∀ v ∈ bfsw f s L i, D (nodeOf f s v) := by
  intro i v hv
  have : nodeOf f s v ∈ bfs f s L i := by rw [← bfsw_map]; exact List.mem_map.2 ⟨v, hv, rfl⟩
  exact bfs_all h0 hD i _ this
end
section maps
variable {α β : Type} [DecidableEq α] [DecidableEq β] {f : α → Int → α} {s : α} {L : List Int} {f' : β → Int → β} {g : α → β} {P : α → Prop}
omit [DecidableEq α] [DecidableEq β] in
theorem nodeOf_map (h0 : P s) (hs : ∀ q, P q → ∀ l ∈ L, P (f q l)) (hf : ∀ q, P q → ∀ l ∈ L, f' (g q) l = g (f q l)) : ∀ (v : List Int), (∀ x ∈ v, x ∈ L) → nodeOf f' (g s) v = g (nodeOf f s v) ∧ P (nodeOf f s v) := by
  intro v
  induction v generalizing s with
  | nil => intro _; exact ⟨rfl, h0⟩
  | cons x v ih =>
    intro hv
    have hx := hv x (by simp)
    have := ih (s := f s x) (hs s h0 x hx) (fun y hy => hv y (by simp [hy]))
    show nodeOf f' (f' (g s) x) v = g (nodeOf f (f s x) v) ∧ P (nodeOf f (f s x) v)
    rw [hf s h0 x hx]
    exact this
theorem wround_over (u : List Int) (hu : ∀ x ∈ u, x ∈ L) : ∀ (Ls : List Int) (ws : List (List Int)), (∀ l ∈ Ls, l ∈ L) → (∀ v ∈ ws, ∀ x ∈ v, x ∈ L) → ∀ v ∈ wround f s u ws Ls, ∀ x ∈ v, x ∈ L := by
  intro Ls ws hLs hws v hv
  rcases wround_mem u Ls ws hv with h | ⟨l, hl, rfl⟩
  · exact hws v h
  · intro x hx
    rcases List.mem_append.1 hx with h1 | h1
    · exact hu x h1
    · rw [List.mem_singleton.1 h1]; exact hLs l hl
theorem bfsw_over (i : Nat) : ∀ v ∈ bfsw f s L i, ∀ x ∈ v, x ∈ L := by
  induction i with
  | zero =>
    intro v hv
    have : v = [] := by simpa [bfsw] using hv
    subst this
    intro x hx; cases hx
  | succ i ih =>
    intro v hv
    rw [bfsw] at hv
    cases h : (bfsw f s L i)[i]? with
    | none => rw [h] at hv; exact ih v hv
    | some u => rw [h] at hv; exact wround_over u (ih u (List.mem_of_getElem? h)) L _ (fun _ h => h) ih v hv
theorem wadd_map' (hg : ∀ a b, P a → P b → g a = g b → a = b) (h0 : P s) (hs : ∀ q, P q → ∀ l ∈ L, P (f q l)) (hf : ∀ q, P q → ∀ l ∈ L, f' (g q) l = g (f q l)) {ws : List (List Int)} {v : List Int} (hws : ∀ u ∈ ws, ∀ x ∈ u, x ∈ L) (hv : ∀ x ∈ v, x ∈ L) : wadd f' (g s) ws v = wadd f s ws v := by
  have h1 := nodeOf_map h0 hs hf v hv
  have e : nodeOf f' (g s) v ∈ ws.map (nodeOf f' (g s)) ↔ nodeOf f s v ∈ ws.map (nodeOf f s) := by
    constructor
    · intro h
      obtain ⟨u, hu, he⟩ := List.mem_map.1 h
      have h2 := nodeOf_map h0 hs hf u (hws u hu)
      rw [h1.1, h2.1] at he
      exact List.mem_map.2 ⟨u, hu, hg _ _ h2.2 h1.2 he⟩
    · intro h
      obtain ⟨u, hu, he⟩ := List.mem_map.1 h
      have h2 := nodeOf_map h0 hs hf u (hws u hu)
      exact List.mem_map.2 ⟨u, hu, by rw [h1.1, h2.1, he]⟩
  unfold wadd
  by_cases h : nodeOf f s v ∈ ws.map (nodeOf f s)
  · rw [if_pos h, if_pos (e.2 h)]
  · rw [if_neg h, if_neg (fun hc => h (e.1 hc))]
theorem wround_map' (hg : ∀ a b, P a → P b → g a = g b → a = b) (h0 : P s) (hs : ∀ q, P q → ∀ l ∈ L, P (f q l)) (hf : ∀ q, P q → ∀ l ∈ L, f' (g q) l = g (f q l)) {u : List Int} (hu : ∀ x ∈ u, x ∈ L) : ∀ (Ls : List Int) (ws : List (List Int)), (∀ l ∈ Ls, l ∈ L) → (∀ v ∈ ws, ∀ x ∈ v, x ∈ L) → wround f' (g s) u ws Ls = wround f s u ws Ls
  | [], ws, _, _ => rfl
  | l :: Ls, ws, hLs, hws => by
    have hul : ∀ x ∈ u ++ [l], x ∈ L := fun x hx => by
      rcases List.mem_append.1 hx with h1 | h1
      · exact hu x h1
      · rw [List.mem_singleton.1 h1]; exact hLs l (by simp)
    have e := wadd_map' hg h0 hs hf hws hul
    show wround f' (g s) u (wadd f' (g s) ws (u ++ [l])) Ls = wround f s u (wadd f s ws (u ++ [l])) Ls
    rw [e]
    refine wround_map' hg h0 hs hf hu Ls _ (fun x hx => hLs x (by simp [hx])) (fun v hv => ?_)
    rcases wadd_mem hv with h | rfl
    · exact hws v h
    · exact hul
theorem bfsw_map' (hg : ∀ a b, P a → P b → g a = g b → a = b) (h0 : P s) (hs : ∀ q, P q → ∀ l ∈ L, P (f q l)) (hf : ∀ q, P q → ∀ l ∈ L, f' (g q) l = g (f q l)) (i : Nat) : bfsw f' (g s) L i = bfsw f s L i := by
  induction i with
  | zero => rfl
  | succ i ih =>
    rw [bfsw, bfsw, ih]
    cases h : (bfsw f s L i)[i]? with
    | none => rfl
    | some u => exact wround_map' hg h0 hs hf (bfsw_over i u (List.mem_of_getElem? h)) L _ (fun _ h => h) (bfsw_over i)
end maps
def firstA (a : A) (s : Int) (G : Int → Bool) : Option (List Int) := firstOf (goA a) s (letters a.al) G
def firstAB (a b : A) (p : Int × Int) (g : Bool → Bool → Bool) : Option (List Int) := firstOf (step2 a b) p (letters a.al) fun p => g (accA a p.1) (accA b p.2)
def resW (o : Option (List Int)) : Value := .tuple #[.string (txt (o.getD [])), .bool o.isSome]
def cmp2 (a b : A) : Bool := validA a && (validA b && decide (a.al = b.al))
theorem cmp2_spec {a b : A} : cmp2 a b = true ↔ validA a = true ∧ validA b = true ∧ a.al = b.al := by simp [cmp2]
def fAcc (a : A) : Option (List Int) := if validA a = true then firstA a 0 (accA a) else none
def fAt (a : A) (q : Int) : Option (List Int) := if validA a = true then firstA a 0 (fun x => decide (x = q)) else none
def fTwo (a b : A) (g : Bool → Bool → Bool) : Option (List Int) := if cmp2 a b = true then firstAB a b (0, 0) g else none
def fOut (a b : A) : Option (List Int) := fTwo a b fun x y => x && !y
def withinL (a b : A) : Bool := cmp2 a b && !(fOut a b).isSome
end Go.Proofs.Ytdejmfkpohgamaa
set_option linter.unusedSimpArgs false
set_option linter.unusedVariables false
namespace Go.Proofs.Ytdejmfkpohgamaa
open Go.RowKit
section
variable {w w' : World} {B n : Nat} {e : TypeId} {v : Value} {rows : List (List Value)}
theorem Wid.rowAt (h : Wid w B e n v rows) {i : Int} (h0 : 0 ≤ i) {r : List Value} (hr : rows[i.toNat]? = some r) : ∃ g c, v = .slice (some ⟨g, 0, none⟩) rows.length c ∧ i.toNat < rows.length := by
  have hi := (List.getElem?_eq_some_iff.1 hr).1
  obtain ⟨g, c, hv, _⟩ := h.at h0 (by omega)
  exact ⟨g, c, hv, hi⟩
end
def NetA (w : World) (AU SI I Bo : TypeId) (av : Value) (aas : List A) : Prop :=
  ∃ B rows, Wid w B AU 3 av rows ∧ rows.length = aas.length ∧ ∀ (j : Nat) (a : A), aas[j]? = some a → ∃ nx ac, rows[j]? = some [.int .i64 a.al, nx, ac] ∧ Rows w SI I nx a.next ∧ Bools w Bo ac a.acc
theorem NetA.ext {w w' : World} {AU SI I Bo : TypeId} {av : Value} {aas : List A} (h : NetA w AU SI I Bo av aas) (x : Ext w w') : NetA w' AU SI I Bo av aas := by
  obtain ⟨B, rows, h1, h2, h3⟩ := h
  refine ⟨B, rows, h1.ext x, h2, fun j a ha => ?_⟩
  obtain ⟨nx, ac, g1, g2, g3⟩ := h3 j a ha
  exact ⟨nx, ac, g1, g2.ext x, g3.ext x⟩
theorem NetA.one {w : World} {AU SI I Bo : TypeId} {av : Value} {aas : List A} (h : NetA w AU SI I Bo av aas) : av.oneCell' = true := by
  obtain ⟨B, rows, h1, _⟩ := h
  exact h1.one
def Cell1 (w : World) (p : Addr) (u : Value) : Prop := w.cell? p = some u
theorem Cell1.ext {w w' : World} {p : Addr} {u : Value} (h : Cell1 w p u) (x : Ext w w') : Cell1 w' p u := by
  have hb := World.block_lt_of_cell? w p h
  unfold Cell1 at *
  rw [← h]
  unfold World.cell?
  rw [x.block p.block hb]
def Read3 (w : World) (e3 e2 e1 : TypeId) (v : Value) (xsss : List (List (List Int))) : Prop := ∃ rs, Row w e3 v rs ∧ rs.length = xsss.length ∧ ∀ (i : Nat) (r : Value), rs[i]? = some r → Rows w e2 e1 r (xsss.getD i [])
def RowU (w : World) (U : Nat) (e : TypeId) (v : Value) (vs : List Value) : Prop := Row w e v vs ∧ ∀ k, v.ownBlock = some k → k < U
def RowsU (w : World) (U : Nat) (e e' : TypeId) (v : Value) (xss : List (List Int)) : Prop := ∃ rs, RowU w U e v rs ∧ rs.length = xss.length ∧ ∀ (i : Nat) (r : Value), rs[i]? = some r → RowU w U e' r ((xss.getD i []).map (Value.int .i64))
def Own3 (w : World) (B U : Nat) (e3 e2 e1 : TypeId) (v : Value) (xsss : List (List (List Int))) : Prop := ∃ rs, Own w B e3 v rs ∧ rs.length = xsss.length ∧ ∀ (i : Nat) (r : Value), rs[i]? = some r → RowsU w U e2 e1 r (xsss.getD i [])
section
variable {w w' : World} {B U : Nat} {e e' e1 e2 e3 : TypeId} {v : Value} {vs : List Value} {xss : List (List Int)} {xsss : List (List (List Int))}
theorem RowU.ext (h : RowU w U e v vs) (x : Ext w w') : RowU w' U e v vs := ⟨h.1.ext x, h.2⟩
theorem RowU.apart {g : Nat} (h : RowU w U e v vs) (hg : w.grownBy w' (some g)) (hU : U ≤ g) : RowU w' U e v vs := by
  refine ⟨?_, h.2⟩
  rcases h.1 with h1 | ⟨b, o, c, cur, fr, hv, hb, hx⟩
  · exact .inl h1
  · refine .inr ⟨b, o, c, cur, fr, hv, ?_, hx⟩
    have hlt := h.2 b (by rw [hv]; rfl)
    rw [hg.block b (lt_of_block hb) (fun h => by injection h with h; omega)]
    exact hb
theorem RowU.other {B' : Nat} {t : TypeId} {u : Value} {us : List Value} (h : RowU w U e v vs) (ho : Own w B' t u us) (hg : w.grownBy w' u.ownBlock) (hne : t ≠ e) : RowU w' U e v vs := ⟨h.1.owned ho hg hne, h.2⟩
theorem RowsU.ext (h : RowsU w U e e' v xss) (x : Ext w w') : RowsU w' U e e' v xss := by
  obtain ⟨rs, h1, h2, h3⟩ := h
  exact ⟨rs, h1.ext x, h2, fun i r hr => (h3 i r hr).ext x⟩
theorem RowsU.apart {g : Nat} (h : RowsU w U e e' v xss) (hg : w.grownBy w' (some g)) (hU : U ≤ g) : RowsU w' U e e' v xss := by
  obtain ⟨rs, h1, h2, h3⟩ := h
  exact ⟨rs, h1.apart hg hU, h2, fun i r hr => (h3 i r hr).apart hg hU⟩
theorem RowsU.other {B' : Nat} {t : TypeId} {u : Value} {us : List Value} (h : RowsU w U e e' v xss) (ho : Own w B' t u us) (hg : w.grownBy w' u.ownBlock) (hne : t ≠ e) (hne' : t ≠ e') : RowsU w' U e e' v xss := by
  obtain ⟨rs, h1, h2, h3⟩ := h
  exact ⟨rs, h1.other ho hg hne, h2, fun i r hr => (h3 i r hr).other ho hg hne'⟩
theorem RowsU.up {U' : Nat} (h : RowsU w U e e' v xss) (hU : U ≤ U') : RowsU w U' e e' v xss := by
  obtain ⟨rs, h1, h2, h3⟩ := h
  exact ⟨rs, ⟨h1.1, fun k hk => Nat.lt_of_lt_of_le (h1.2 k hk) hU⟩, h2, fun i r hr => ⟨(h3 i r hr).1, fun k hk => Nat.lt_of_lt_of_le ((h3 i r hr).2 k hk) hU⟩⟩
theorem RowsU.rows (h : RowsU w U e e' v xss) : Rows w e e' v xss := by
  obtain ⟨rs, h1, h2, h3⟩ := h
  exact ⟨rs, h1.1, h2, fun i r hr => (h3 i r hr).1⟩
theorem RowsU.of (h : OwnRows w B w.heap.size e e' v xss) : RowsU w w.heap.size e e' v xss := by
  obtain ⟨rs, h1, h2, h3, h4⟩ := h
  exact ⟨rs, ⟨h1.row, fun k hk => (h1.lt k hk).2⟩, h2, fun i r hr => ⟨(h3 i r hr).1.row, (h3 i r hr).2⟩⟩
theorem Own3.nil (w : World) (B U : Nat) (e3 e2 e1 : TypeId) {v : Value} (h : Own w B e3 v []) : Own3 w B U e3 e2 e1 v [] := ⟨[], h, rfl, by simp⟩
theorem Own3.now (h : Own3 w B U e3 e2 e1 v xsss) (hU : U ≤ w.heap.size := by omega) : Own3 w B w.heap.size e3 e2 e1 v xsss := by
  obtain ⟨rs, h1, h2, h3⟩ := h
  exact ⟨rs, h1, h2, fun i r hr => (h3 i r hr).up hU⟩
theorem Own3.ext (h : Own3 w B U e3 e2 e1 v xsss) (x : Ext w w') : Own3 w' B U e3 e2 e1 v xsss := by
  obtain ⟨rs, h1, h2, h3⟩ := h
  exact ⟨rs, h1.ext x, h2, fun i r hr => (h3 i r hr).ext x⟩
theorem Own3.apart {B' : Nat} {t : TypeId} {u : Value} {us : List Value} (h : Own3 w B U e3 e2 e1 v xsss) (ho : Own w B' t u us) (hg : w.grownBy w' u.ownBlock) (hB : U ≤ B') (hne : t ≠ e3) : Own3 w' B U e3 e2 e1 v xsss := by
  obtain ⟨rs, h1, h2, h3⟩ := h
  refine ⟨rs, h1.owned ho hg hne, h2, fun i r hr => ?_⟩
  rcases ho.cases with ⟨rfl, rfl⟩ | ⟨g, cap, cs, rfl, hg', hb, _⟩
  · exact (h3 i r hr).ext (Ext.of_grown hg)
  · exact (h3 i r hr).apart (g := g) hg (Nat.le_trans hB hg')
theorem Own3.open (h : Own3 w B U e3 e2 e1 v xsss) (hne : e3 ≠ e2) (hne' : e3 ≠ e1) : ∃ rs, Own w B e3 v rs ∧ rs.length = xsss.length ∧
    ∀ r xss w1 v' w', Ext w w1 → RowsU w1 w1.heap.size e2 e1 r xss → U ≤ w1.heap.size → Own w' B e3 v' (rs ++ [r]) → w1.grownBy w' v.ownBlock → Own3 w' B w'.heap.size e3 e2 e1 v' (xsss ++ [xss]) := by
  obtain ⟨rs, h1, h2, h3⟩ := h
  refine ⟨rs, h1, h2, fun r xss w1 v' w' x hr hU hv hg => ?_⟩
  have hv1 := h1.ext x
  have hsz := World.grownBy.size hg
  refine ⟨rs ++ [r], hv, by simp [h2], fun i q hq => ?_⟩
  rcases Nat.lt_or_ge i rs.length with hi | hi
  · rw [List.getElem?_append_left hi] at hq
    have e4 : (xsss ++ [xss]).getD i [] = xsss.getD i [] := by
      rw [List.getD_eq_getElem?_getD, List.getElem?_append_left (by omega), ← List.getD_eq_getElem?_getD]
    rw [e4]
    exact (((h3 i q hq).ext x).other hv1 hg hne hne').up (by omega)
  · have hi2 := (List.getElem?_eq_some_iff.1 hq).1
    rw [List.length_append, List.length_singleton] at hi2
    obtain rfl : i = rs.length := by omega
    rw [List.getElem?_append_right (Nat.le_refl _), Nat.sub_self] at hq
    have hq' : r = q := by simpa using hq
    subst hq'
    have e4 : (xsss ++ [xss]).getD rs.length [] = xss := by
      rw [h2, List.getD_eq_getElem?_getD, List.getElem?_append_right (Nat.le_refl _), Nat.sub_self]; rfl
    rw [e4]
    exact (hr.other hv1 hg hne hne').up hsz
theorem Read3.ext (h : Read3 w e3 e2 e1 v xsss) (x : Ext w w') : Read3 w' e3 e2 e1 v xsss := by
  obtain ⟨rs, h1, h2, h3⟩ := h
  exact ⟨rs, h1.ext x, h2, fun i r hr => (h3 i r hr).ext x⟩
theorem Read3.at (h : Read3 w e3 e2 e1 v xsss) {i : Int} (hi : 0 ≤ i) (hlt : i.toNat < xsss.length) : ∃ p r, At w e3 v i p r ∧ Rows w e2 e1 r (xsss.getD i.toNat []) := by
  obtain ⟨rs, h1, h2, h3⟩ := h
  have hl : i.toNat < rs.length := by omega
  obtain ⟨p, hp⟩ := h1.at hi hl
  exact ⟨p, rs[i.toNat], hp, h3 _ _ (List.getElem?_eq_getElem hl)⟩
end
section
variable {f : Int → Int → Int} {L : List Int} {G : Int → Bool} {n : Nat}
end
theorem Ret.resW {P : Program} {k : FuncId} {args : Array Value} {w0 : World} {X Y : Option (List Int)} (h : Ret P k args w0 (fun v w => v = Go.Proofs.Ytdejmfkpohgamaa.resW X ∧ Ext w0 w)) (e : X = Y) : Ret P k args w0 (fun v w => v = Go.Proofs.Ytdejmfkpohgamaa.resW Y ∧ Ext w0 w) := by rw [← e]; exact h
section
variable {w : World} {B : Nat} {AU SI I Bo : TypeId} {v nx ac nx' ac' : Value} {a b : A}
end
end Go.Proofs.Ytdejmfkpohgamaa
set_option linter.unusedSimpArgs false
set_option linter.unusedVariables false
namespace Go.Proofs.Ytdejmfkpohgamaa
def IsFirst (L : List Int) (G : List Int → Bool) : Option (List Int) → Prop
  | some w => (∀ x ∈ w, x ∈ L) ∧ G w = true ∧ ∀ v : List Int, (∀ x ∈ v, x ∈ L) → G v = true → sle w v
  | none => ∀ v : List Int, (∀ x ∈ v, x ∈ L) → G v = false
theorem IsFirst.uniq {L : List Int} {G G' : List Int → Bool} {o o' : Option (List Int)} (h : IsFirst L G o) (h' : IsFirst L G' o') (hg : ∀ v : List Int, (∀ x ∈ v, x ∈ L) → G v = G' v) : o = o' := by
  cases o with
  | none =>
    cases o' with
    | none => rfl
    | some w =>
      have := h w h'.1
      rw [hg w h'.1, h'.2.1] at this
      cases this
  | some w =>
    cases o' with
    | none =>
      have := h' w h.1
      rw [← hg w h.1, h.2.1] at this
      cases this
    | some w' =>
      have h1 := h.2.2 w' h'.1 (by rw [hg w' h'.1]; exact h'.2.1)
      have h2 := h'.2.2 w h.1 (by rw [← hg w h.1]; exact h.2.1)
      rw [sle_antisymm h1 h2]
theorem IsFirst.isSome {L : List Int} {G : List Int → Bool} {o : Option (List Int)} (h : IsFirst L G o) : o.isSome = true ↔ ∃ v : List Int, (∀ x ∈ v, x ∈ L) ∧ G v = true := by
  cases o with
  | none => exact ⟨fun h' => (by cases h'), fun ⟨v, hv, hg⟩ => by rw [h v hv] at hg; cases hg⟩
  | some w => exact ⟨fun _ => ⟨w, h.1, h.2.1⟩, fun _ => rfl⟩
theorem IsFirst.isNone {L : List Int} {G : List Int → Bool} {o : Option (List Int)} (h : IsFirst L G o) : o.isSome = false ↔ ∀ v : List Int, (∀ x ∈ v, x ∈ L) → G v = false := by
  cases o with
  | none => exact ⟨fun _ => h, fun _ => rfl⟩
  | some w => exact ⟨fun h' => (by cases h'), fun h' => by have := h' w h.1; rw [h.2.1] at this; cases this⟩
theorem over_six {al : Int} {w : List Int} (h : ∀ x ∈ w, x ∈ letters al) : ∀ x ∈ w, 0 ≤ x ∧ x < 6 := fun x hx => ⟨(mem_letters (h x hx)).1, (mem_letters (h x hx)).2.1⟩
section
variable {a b : A}
theorem node2 : ∀ (w : List Int) (p : Int × Int), nodeOf (step2 a b) p w = (run a p.1 w, run b p.2 w)
  | [], p => rfl
  | x :: w, p => node2 w (step2 a b p x)
theorem ord1_le (hv : validA a = true) {s : Int} (hs : 0 ≤ s ∧ s < a.next.length) : (ord (goA a) s (letters a.al)).length ≤ a.next.length := by
  have h := bfsw_range (f := goA a) (s := s) (L := letters a.al) (n := a.next.length) (D := fun q => 0 ≤ q ∧ q < (a.next.length : Int)) hs (fun q hq x hx => goA_in hv hq ⟨(mem_letters hx).1, (mem_letters hx).2.1⟩) (fun q hq => hq) (many 0)
  rw [bfsw_length] at h
  exact h
theorem ord2_le (hv : validA a = true) (hv' : validA b = true) {p : Int × Int} (hp : In2 a b p) {al : Int} : (ord (step2 a b) p (letters al)).length ≤ a.next.length * b.next.length := by
  have h := bfsw_range (f := fP a b) (s := enc2 b p) (L := letters al) (n := a.next.length * b.next.length) (D := InP a b) (inP_enc hp) (fun q hq x hx => fP_in hv hv' hq ⟨(mem_letters hx).1, (mem_letters hx).2.1⟩) (fun q hq => hq) (many 0)
  rw [bfsw_map' (P := In2 a b) enc_inj hp (fun q hq l hl => in2 hv hv' hq ⟨(mem_letters hl).1, (mem_letters hl).2.1⟩) (fun q hq l _ => fP_enc hq l), bfsw_length] at h
  exact h
theorem isFirst_A (hv : validA a = true) {s : Int} (hs : 0 ≤ s ∧ s < a.next.length) (G : Int → Bool) : IsFirst (letters a.al) (fun w => G (run a s w)) (firstA a s G) := by
  have hl : (ord (goA a) s (letters a.al)).length ≤ 200 := by have := ord1_le hv hs; have := (validA_spec.1 hv).2.1; omega
  unfold firstA
  cases h : firstOf (goA a) s (letters a.al) G with
  | none => exact first_none (letters_sorted _) hl h
  | some w =>
    have := first_some (letters_sorted _) hl h
    exact ⟨ordw_over (letters_sorted _) this.1, this.2.1, this.2.2⟩
theorem isFirst_AB (hv : validA a = true) (hv' : validA b = true) {p : Int × Int} (hp : In2 a b p) (g : Bool → Bool → Bool) : IsFirst (letters a.al) (fun w => g (accA a (run a p.1 w)) (accA b (run b p.2 w))) (firstAB a b p g) := by
  have hl : (ord (step2 a b) p (letters a.al)).length ≤ 200 := by have := ord2_le hv hv' hp (al := a.al); have := le144 hv hv'; omega
  unfold firstAB
  cases h : firstOf (step2 a b) p (letters a.al) (fun p => g (accA a p.1) (accA b p.2)) with
  | none =>
    intro v hv
    have := first_none (letters_sorted _) hl h v hv
    rw [node2] at this
    exact this
  | some w =>
    have h1 := first_some (letters_sorted _) hl h
    rw [node2] at h1
    refine ⟨ordw_over (letters_sorted _) h1.1, h1.2.1, fun v hv hg => h1.2.2 v hv ?_⟩
    rw [node2]
    exact hg
theorem firstA_short (hv : validA a = true) {s : Int} (hs : 0 ≤ s ∧ s < a.next.length) {G : Int → Bool} {w : List Int} (h : firstA a s G = some w) : w.length + 1 ≤ a.next.length := by
  have hl : (ord (goA a) s (letters a.al)).length ≤ 200 := by have := ord1_le hv hs; have := (validA_spec.1 hv).2.1; omega
  have h1 := first_some (letters_sorted _) hl h
  exact Nat.le_trans (ordw_short (letters_sorted _) h1.1) (ord1_le hv hs)
theorem run_in2 (hv : validA a = true) {w : List Int} (hw : ∀ x ∈ w, 0 ≤ x ∧ x < 6) : 0 ≤ run a 0 w ∧ run a 0 w < a.next.length := run_stay hv hw (zero_in hv)
theorem isFirst_two (hC : cmp2 a b = true) (g : Bool → Bool → Bool) : IsFirst (letters a.al) (fun w => g (accA a (run a 0 w)) (accA b (run b 0 w))) (fTwo a b g) := by
  have h := cmp2_spec.1 hC
  rw [fTwo, if_pos hC]
  exact isFirst_AB h.1 h.2.1 (in_zero h.1 h.2.1) g
end
end Go.Proofs.Ytdejmfkpohgamaa
set_option linter.unusedSimpArgs false
set_option linter.unusedVariables false
namespace Go.Proofs.Ytdejmfkpohgamaa
section
variable {a b : A}
theorem at_first (hv : validA a = true) (q : Int) : IsFirst (letters a.al) (fun w => decide (run a 0 w = q)) (fAt a q) := by
  rw [fAt, if_pos hv]
  exact isFirst_A hv (zero_in hv) (fun x => decide (x = q))
theorem at_word {q : Int} {w : List Int} (hv : validA a = true) (h : fAt a q = some w) : (∀ x ∈ w, x ∈ letters a.al) ∧ run a 0 w = q ∧ w.length + 1 ≤ a.next.length := by
  have h1 := at_first hv q
  rw [h] at h1
  have h2 := h
  rw [fAt, if_pos hv] at h2
  exact ⟨h1.1, of_decide_eq_true h1.2.1, firstA_short hv (zero_in hv) h2⟩
theorem small_word {w : List Int} (hv : validA a = true) (h : w.length + 1 ≤ a.next.length) : w.length ≤ 50000 := by have := (validA_spec.1 hv).2.1; omega
theorem at_self {w : List Int} (hv : validA a = true) (h : w ∈ ordw (goA a) 0 (letters a.al)) : fAt a (run a 0 w) = some w := by
  have hl : (ord (goA a) 0 (letters a.al)).length ≤ 200 := by have := ord1_le hv (zero_in hv); have := (validA_spec.1 hv).2.1; omega
  rw [fAt, if_pos hv]
  exact first_self (letters_sorted _) hl h
end
section
open Classical
variable {α : Type} {f : α → Int → α} {L : List Int} {G : α → Bool} {U : List α}
def Alike (f : α → Int → α) (L : List Int) (G : α → Bool) (k : Nat) (x y : α) : Prop := ∀ w : List Int, w.length < k → (∀ l ∈ w, l ∈ L) → G (nodeOf f x w) = G (nodeOf f y w)
theorem Alike.refl (k : Nat) (x : α) : Alike f L G k x x := fun _ _ _ => rfl
theorem Alike.symm {k : Nat} {x y : α} (h : Alike f L G k x y) : Alike f L G k y x := fun w h1 h2 => (h w h1 h2).symm
theorem Alike.trans {k : Nat} {x y z : α} (h : Alike f L G k x y) (h' : Alike f L G k y z) : Alike f L G k x z := fun w h1 h2 => (h w h1 h2).trans (h' w h1 h2)
end
section
variable {a b : A}
end
end Go.Proofs.Ytdejmfkpohgamaa
set_option linter.unusedSimpArgs false
set_option linter.unusedVariables false
namespace Go.Proofs.Ytdejmfkpohgamaa
def accW (a : A) (w : List Int) : Bool := accA a (run a 0 w)
section
variable {a b : A}
theorem within_iff (hC : cmp2 a b = true) : withinL a b = true ↔ ∀ v : List Int, (∀ x ∈ v, x ∈ letters a.al) → accW a v = true → accW b v = true := by
  have h := (isFirst_two hC (fun x y => x && !y)).isNone
  rw [withinL, hC, Bool.true_and, Bool.not_eq_true']
  unfold fOut
  rw [h]
  constructor
  · intro hh v hv ha
    have := hh v hv
    revert this
    rw [show accA a (run a 0 v) = true from ha]
    show (true && !accW b v) = false → _
    cases accW b v <;> simp
  · intro hh v hv
    have := hh v hv
    revert this
    show (accW a v = true → accW b v = true) → (accW a v && !accW b v) = false
    cases accW a v <;> cases accW b v <;> simp
theorem accW_safe (hv : validA a = true) {v : List Int} (h : ∀ x ∈ v, 0 ≤ x ∧ x < 6) : accW (safe a) v = true ↔ ∀ k ≤ v.length, accW a (v.take k) = true := run_safe hv v 0 h (zero_in hv)
theorem row_map (hv : validA a = true) {q : Int} (hq : 0 ≤ q ∧ q < a.next.length) : a.next.getD q.toNat [] = (letters a.al).map (goA a q) := by
  rw [← extRow_same hv (q := q.toNat) (by omega)]
  unfold extRow
  rw [Int.toNat_of_nonneg hq.1]
theorem acc_first (hv : validA a = true) : IsFirst (letters a.al) (accW a) (fAcc a) := by
  rw [fAcc, if_pos hv]
  exact isFirst_A hv (zero_in hv) (accA a)
def isPC (a : A) : Bool := validA a && withinL a (safe a)
theorem cmp2_safe2 (hv : validA a = true) : cmp2 a (safe a) = true := cmp2_spec.2 ⟨hv, safe_valid hv, rfl⟩
theorem isPC_iff (hv : validA a = true) : isPC a = true ↔ ∀ v : List Int, (∀ x ∈ v, x ∈ letters a.al) → accW a v = true → ∀ k ≤ v.length, accW a (v.take k) = true := by
  rw [isPC, hv, Bool.true_and, within_iff (cmp2_safe2 hv)]
  exact ⟨fun h v hx ha => (accW_safe hv (over_six hx)).1 (h v hx ha), fun h v hx ha => (accW_safe hv (over_six hx)).2 (h v hx ha)⟩
theorem isPC_no (h : validA a = false) : isPC a = false := by rw [isPC, h]; rfl
theorem accW_num {α : Type} [DecidableEq α] {al : Int} {f : α → Int → α} {s : α} {acc : α → Bool} (hal : 0 ≤ al ∧ al ≤ 63) (h : (ord f s (letters al)).length ≤ 200) {w : List Int} (hw : ∀ x ∈ w, x ∈ letters al) : accW (num al f s acc) w = acc (nodeOf f s w) := by
  have h1 := run_num (acc := acc) hal h w (q := s) ord_mem0 hw
  rw [ord_zero' h] at h1
  unfold accW accA
  rw [show ((0 : Nat) : Int) = 0 from rfl] at h1
  rw [h1.1]
  exact acc_num h1.2
theorem accW_prod {k : Int} (h : prodOk a b k = true) {v : List Int} (hx : ∀ x ∈ v, x ∈ letters (orI a.al b.al)) : accW (prodA a b k) v = kindB k (accW a v) (accW b v) := by
  have hp := prodOk_spec.1 h
  unfold prodA
  rw [accW_num (prod_al hp.1 hp.2.1) (by have := hp.2.2.2; unfold ord2 at this; omega) hx]
  unfold acc2 accW nodeOf
  rw [fold2]
theorem prod_self (hv : validA a = true) (k : Int) : prodA a a k = num a.al (goA a) 0 (fun q => kindB k (accA a q) (accA a q)) := by
  unfold prodA
  rw [orI_self (validA_spec.1 hv).1.1]
  exact num_map (g := fun q : Int => (q, q)) (P := fun _ => True) (fun x y _ _ h => (Prod.mk.inj h).1) trivial (fun _ _ _ _ => trivial) (fun _ _ _ _ => rfl) (fun _ _ => rfl)
theorem prod_self_ok (hv : validA a = true) {k : Int} (hk : 0 ≤ k ∧ k ≤ 2) : prodOk a a k = true := by
  refine prodOk_spec.2 ⟨hv, hv, hk, ?_⟩
  unfold ord2
  rw [orI_self (validA_spec.1 hv).1.1]
  have := ord_map (f := goA a) (f' := step2 a a) (s := 0) (L := letters a.al) (g := fun q : Int => (q, q)) (P := fun _ => True) (fun x y _ _ h => (Prod.mk.inj h).1) trivial (fun _ _ _ _ => trivial) (fun _ _ _ _ => rfl)
  rw [show ((0 : Int), (0 : Int)) = (fun q : Int => (q, q)) 0 from rfl, this, List.length_map]
  exact Nat.le_trans (trim_len hv) (validA_spec.1 hv).2.1.2
theorem prod_both (hv : validA a = true) : prodA a a 0 = trim a := by
  rw [prod_self hv]
  unfold trim
  congr 1
  funext q
  show (accA a q && accA a q) = accA a q
  cases accA a q <;> rfl
theorem prod_either (hv : validA a = true) : prodA a a 1 = trim a := by
  rw [prod_self hv]
  unfold trim
  congr 1
  funext q
  show (accA a q || accA a q) = accA a q
  cases accA a q <;> rfl
theorem prod_empty (hv : validA a = true) : (fAcc (prodA a a 2)).isSome = false := by
  have h := prod_self_ok hv (k := 2) (by decide)
  rw [(acc_first (prod_valid h)).isNone]
  intro v hx
  rw [accW_prod h hx]
  show (accW a v && !accW a v) = false
  cases accW a v <;> rfl
theorem prod_safe {k : Int} (hv : validA a = true) (hv' : validA b = true) (h : prodOk (safe a) (safe b) k = true) (hk : k ≠ 2) : isPC (prodA (safe a) (safe b) k) = true := by
  have hp := prodOk_spec.1 h
  rw [isPC_iff (prod_valid h)]
  intro v hx ha j hj
  have hx' : ∀ x ∈ v, x ∈ letters (orI (safe a).al (safe b).al) := hx
  have h6 := over_six hx
  have ht : ∀ x ∈ v.take j, x ∈ letters (orI (safe a).al (safe b).al) := fun x h => hx' x (List.mem_of_mem_take h)
  rw [accW_prod h hx'] at ha
  rw [accW_prod h ht]
  have one : ∀ {c : A}, validA c = true → accW (safe c) v = true → accW (safe c) (v.take j) = true := fun hc hh => by
    rw [accW_safe hc h6] at hh
    rw [accW_safe hc (over_six ht)]
    intro i hi
    rw [List.take_take]
    exact hh _ (by omega)
  have h1 := one hv
  have h2 := one hv'
  have hk2 : k = 0 ∨ k = 1 := by have := hp.2.2.1; omega
  rcases hk2 with rfl | rfl
  · have ha2 : (accW (safe a) v && accW (safe b) v) = true := ha
    rw [Bool.and_eq_true] at ha2
    show (accW (safe a) (v.take j) && accW (safe b) (v.take j)) = true
    rw [h1 ha2.1, h2 ha2.2]; rfl
  · have ha2 : (accW (safe a) v || accW (safe b) v) = true := ha
    rw [Bool.or_eq_true] at ha2
    show (accW (safe a) (v.take j) || accW (safe b) (v.take j)) = true
    rcases ha2 with h | h
    · rw [h1 h]; rfl
    · rw [h2 h, Bool.or_true]
theorem ord200 (hv : validA a = true) : (ord (goA a) 0 (letters a.al)).length ≤ 200 := by have := trim_len hv; have := (validA_spec.1 hv).2.1; omega
theorem accW_trim (hv : validA a = true) {v : List Int} (hx : ∀ x ∈ v, x ∈ letters a.al) : accW (trim a) v = accW a v := accW_num (validA_spec.1 hv).1 (ord200 hv) hx
theorem run_trim (hv : validA a = true) {v : List Int} (hx : ∀ x ∈ v, x ∈ letters a.al) : run (trim a) 0 v = ((ord (goA a) 0 (letters a.al)).idxOf (run a 0 v) : Int) ∧ run a 0 v ∈ ord (goA a) 0 (letters a.al) := by
  have h1 := run_num (acc := accA a) (validA_spec.1 hv).1 (ord200 hv) v (q := 0) ord_mem0 hx
  rw [ord_zero' (ord200 hv)] at h1
  exact h1
theorem trim_at (hv : validA a = true) {i : Nat} (hi : i < (trim a).next.length) : ∃ w, (ordw (goA a) 0 (letters a.al))[i]? = some w ∧ fAt (trim a) i = some w ∧ fAt a (run a 0 w) = some w ∧ (∀ x ∈ w, x ∈ letters a.al) ∧ w.length ≤ 50000 := by
  have hl : (trim a).next.length = (ordw (goA a) 0 (letters a.al)).length := by unfold trim; rw [num_len, ordw_length]
  rw [hl] at hi
  have hw := List.getElem?_eq_getElem hi
  have hm : (ordw (goA a) 0 (letters a.al))[i] ∈ ordw (goA a) 0 (letters a.al) := List.getElem_mem hi
  have hs := at_self hv hm
  have ho := ordw_over (letters_sorted _) hm
  have hn : (ord (goA a) 0 (letters a.al))[i]? = some (run a 0 (ordw (goA a) 0 (letters a.al))[i]) := by
    rw [← ordw_map, List.getElem?_map, hw]; rfl
  refine ⟨_, hw, ?_, hs, ho, by have := (at_word hv hs).2.2; exact small_word hv this⟩
  have h1 := at_first (trim_valid hv) (i : Int)
  have h2 := at_first hv (run a 0 (ordw (goA a) 0 (letters a.al))[i])
  rw [hs] at h2
  refine IsFirst.uniq h1 h2 fun v hx => ?_
  have hr := run_trim hv hx
  show decide (run (trim a) 0 v = (i : Int)) = decide (run a 0 v = _)
  rw [hr.1, decide_eq_decide]
  constructor
  · intro h
    have h3 := getElem_idx hr.2
    rw [show (ord (goA a) 0 (letters a.al)).idxOf (run a 0 v) = i by omega, hn] at h3
    exact (Option.some.inj h3).symm
  · intro h
    rw [h, idx_getElem ord_nodup hn]
def leads (a : A) (q : Int) : Bool := (firstA a q (accA a)).isSome
theorem leads_iff (hv : validA a = true) {q : Int} (hq : 0 ≤ q ∧ q < a.next.length) : leads a q = true ↔ ∃ v : List Int, (∀ x ∈ v, x ∈ letters a.al) ∧ accA a (run a q v) = true := (isFirst_A hv hq (accA a)).isSome
def pcRow (a : A) (q : Nat) : Bool := a.acc.getD q false || (a.next.getD q []).all fun t => !leads a t
def pcA (a : A) : Bool := (List.range a.next.length).all (pcRow a)
theorem pc_trim (hv : validA a = true) : pcA (trim a) = isPC a := by
  have ht := trim_valid hv
  have hl : letters (trim a).al = letters a.al := rfl
  rw [Bool.eq_iff_iff, isPC_iff hv]
  unfold pcA
  rw [List.all_eq_true]
  constructor
  · intro h v hx ha k hk
    cases hb : accW a (v.take k) with
    | true => rfl
    | false =>
      exfalso
      have hxk : ∀ x ∈ v.take k, x ∈ letters a.al := fun x h => hx x (List.mem_of_mem_take h)
      have hk2 : k < v.length := by
        rcases Nat.lt_or_ge k v.length with h | h
        · exact h
        · rw [List.take_of_length_le h, ha] at hb; cases hb
      have hq := run_in2 ht (w := v.take k) (over_six hxk)
      rw [← accW_trim hv hxk] at hb
      rw [← accW_trim hv hx] at ha
      have h1 := h (run (trim a) 0 (v.take k)).toNat (List.mem_range.2 (by omega))
      unfold pcRow at h1
      rw [show (trim a).acc.getD (run (trim a) 0 (v.take k)).toNat false = false from hb, Bool.false_or, List.all_eq_true, row_map ht hq] at h1
      have hxl : v[k] ∈ letters a.al := hx _ (List.getElem_mem hk2)
      have h6 : 0 ≤ v[k] ∧ v[k] < 6 := ⟨(mem_letters hxl).1, (mem_letters hxl).2.1⟩
      have h2 := h1 _ (List.mem_map.2 ⟨v[k], hxl, rfl⟩)
      have h3 : leads (trim a) (goA (trim a) (run (trim a) 0 (v.take k)) v[k]) = true := (leads_iff ht (goA_in ht hq h6)).2 ⟨v.drop (k + 1), fun x h => hx x (List.mem_of_mem_drop h), by
        have e : run (trim a) 0 v = run (trim a) (goA (trim a) (run (trim a) 0 (v.take k)) v[k]) (v.drop (k + 1)) := by
          conv => lhs; rw [← List.take_append_drop k v, List.drop_eq_getElem_cons hk2]
          rw [run_cat]; rfl
        rw [← e]; exact ha⟩
      rw [h3] at h2
      cases h2
  · intro h q hq
    have hq := List.mem_range.1 hq
    unfold pcRow
    rw [Bool.or_eq_true, List.all_eq_true]
    cases hb : (trim a).acc.getD q false with
    | true => exact .inl rfl
    | false =>
      right
      intro t htm
      rw [Bool.not_eq_true']
      cases hlead : leads (trim a) t with
      | false => rfl
      | true =>
        exfalso
        have e := row_map ht (q := (q : Int)) ⟨by omega, by omega⟩
        rw [Int.toNat_natCast] at e
        rw [e] at htm
        obtain ⟨l, hl, rfl⟩ := List.mem_map.1 htm
        have h6 : 0 ≤ l ∧ l < 6 := ⟨(mem_letters hl).1, (mem_letters hl).2.1⟩
        obtain ⟨v, hx, hg⟩ := (leads_iff ht (goA_in ht ⟨by omega, by omega⟩ h6)).1 hlead
        obtain ⟨u, hu, hfu, _, hou, _⟩ := trim_at hv hq
        have hru := (at_word ht hfu).2.1
        have hxx : ∀ x ∈ u ++ l :: v, x ∈ letters a.al := fun x h => (List.mem_append.1 h).elim (hou x) fun h => (List.mem_cons.1 h).elim (fun e => e ▸ hl) (hx x)
        have h1 := h (u ++ l :: v) hxx (by
          rw [← accW_trim hv hxx]
          unfold accW
          rw [run_cat, hru]
          exact hg) u.length (by simp)
        rw [List.take_left', ← accW_trim hv hou] at h1
        · unfold accW accA at h1
          rw [hru, Int.toNat_natCast, hb] at h1
          cases h1
        · rfl
end
end Go.Proofs.Ytdejmfkpohgamaa
set_option linter.unusedSimpArgs false
set_option linter.unusedVariables false
namespace Go.Proofs.Ytdejmfkpohgamaa
section
variable {κ μ : Type} [DecidableEq κ] [DecidableEq μ] {xs : List κ}
def dd (xs : List κ) : List κ := addAll [] xs
end
section
variable {a : A}
end
end Go.Proofs.Ytdejmfkpohgamaa
set_option linter.unusedSimpArgs false
set_option linter.unusedVariables false
namespace Go.Proofs.Ytdejmfkpohgamaa
def rowQ (a : A) (cs : List Int) (q : Nat) : List Int := (a.next.getD q []).map fun t => cs.getD t.toNat 0
def quo (a : A) (cs : List Int) : A := ⟨a.al, (dd cs).map fun c => rowQ a cs (cs.idxOf c), (dd cs).map fun c => a.acc.getD (cs.idxOf c) false⟩
section
variable {a b : A}
end
section
variable {α β : Type} [DecidableEq α] [DecidableEq β] {f : α → Int → α} {s : α} {L : List Int} {f' : β → Int → β} {g : α → β}
def pick (f' : β → Int → β) (s' : β) (us : List (List Int)) (ws : List (List Int)) : List (List Int) := ws.foldl (fun us w => wadd f' s' us w) us
end
section
variable {a : A}
end
end Go.Proofs.Ytdejmfkpohgamaa
set_option linter.unusedSimpArgs false
set_option linter.unusedVariables false
namespace Go.Proofs.Ytdejmfkpohgamaa
open Go.RowKit
section
variable {P : Program} {N : Nat} {ops : Array Oper} {Q : Exit → Act → World → Prop} {rest : List Oper} {l : Slots} {w : World}
variable {d : Nat} {ty : TypeId} {pos : String} {after : Array Edge} {g : Option (Nat × Bool)}
end
section
variable {a b : A}
theorem pc_found {q j : Nat} (hq : q < a.next.length) (hj : j < (a.next.getD q []).length) (hac : a.acc.getD q false = false) (hl : leads a ((a.next.getD q []).getD j 0) = true) : pcA a = false := by
  unfold pcA
  rw [List.all_eq_false]
  refine ⟨q, List.mem_range.2 hq, ?_⟩
  unfold pcRow
  rw [hac, Bool.false_or, List.all_eq_true]
  intro hc
  have := hc _ (getD_mem (d := 0) hj)
  rw [hl] at this
  cases this
theorem pc_all {k : Nat} (hk : a.next.length ≤ k) (h : ∀ i, i < k → i < a.next.length → pcRow a i = true) : pcA a = true := by
  unfold pcA
  rw [List.all_eq_true]
  intro i hi
  have := List.mem_range.1 hi
  exact h i (by omega) this
theorem pcRow_done {q j : Nat} (hj : (a.next.getD q []).length ≤ j) (h : a.acc.getD q false = true ∨ (((a.next.getD q []).take j).all fun t => !leads a t) = true) : pcRow a q = true := by
  unfold pcRow
  rcases h with h | h
  · rw [h]; rfl
  · rw [List.take_of_length_le hj] at h
    rw [h, Bool.or_true]
end
end Go.Proofs.Ytdejmfkpohgamaa
