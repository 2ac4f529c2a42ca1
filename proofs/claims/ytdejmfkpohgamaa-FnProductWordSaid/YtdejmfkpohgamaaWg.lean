/-
  Walks, printed by a program out of the translation and a contract for each function; each step is one law.
-/
import Derived.Test.YtdejmfkpohgamaaWb
set_option linter.unusedSimpArgs false
set_option linter.unusedVariables false
namespace Go.Proofs.Ytdejmfkpohgamaa
open Go.RowKit

set_option maxRecDepth 100000 in
theorem l1Text_c (x : Int) (hx : 0 ≤ x ∧ x ≤ 100) (w0 : World) : Ret Try.prog 98 #[Value.int .i64 x] w0 (fun v w => v = .string (chr x) ∧ Ext w0 w) := by
  have E := Ext.refl w0
  refine Ret.of (args := [Value.int .i64 x]) Try.func98 rfl rfl rfl ?_
  rintro _ rfl
  show Cq _ _ _ _ [(0, Value.int .i64 x)] _
  refine Cq.seq ?_
  refine Cq.region ?_
  refine Sq.assign .plain rfl rfl ?_
  refine Sq.nil ?_
  refine Eq.next ?_
  refine Cq.seq ?_
  refine Cq.region ?_
  refine Sq.move .plain rfl rfl ?_
  refine Sq.add .plain rfl rfl rfl (by omega) ?_
  refine Sq.conv8 conv3_5 .plain rfl rfl (by omega) ?_
  refine Sq.lit sl22 rfl rfl .plain rfl rfl (one_cons rfl one_nil) (fun b1 w2 e3 hlo4 ho5 _ => ?_)
  replace ho5 := ho5 w0.heap.size (Nat.le_refl _)
  have hs7 := Below.size e3
  replace E := E.trans e3
  refine Sq.val .plain rfl rfl (Still.text1 und22 und8_22 und9 ho5 (by omega) rfl) ?_
  refine Sq.assign .plain rfl rfl ?_
  refine Sq.nil ?_
  refine Eq.next ?_
  refine Cq.ret ?_
  refine Eq.ret1 rfl rfl ?_
  exact ⟨rfl, E⟩

set_option maxRecDepth 100000 in
theorem fmtAl_c (al : Int) (w0 : World) : Ret Try.prog 128 #[Value.int .i64 al] w0 (fun v w => v = .string (fmtAl al) ∧ Ext w0 w) := by
  have E := Ext.refl w0
  refine Ret.of (args := [Value.int .i64 al]) Try.func128 rfl rfl rfl ?_
  rintro _ rfl
  show Cq _ _ _ _ [(0, Value.int .i64 al)] _
  refine Cq.seq ?_
  refine Cq.region ?_
  refine Sq.assign .plain rfl rfl ?_
  refine Sq.nil ?_
  refine Eq.next ?_
  refine Cq.seq ?_
  refine Cq.seq ?_
  refine Cq.region ?_
  refine Sq.move .plain rfl rfl ?_
  refine Sq.call fn89 .plain rfl rfl (l1Alphabet_c _ _) ?_
  rintro _ _ ⟨rfl, rfl⟩
  refine Sq.part (fun c1 => ?_) (fun c1 => ?_)
  · refine Sq.notT .plain rfl rfl ?_
    refine Sq.nil ?_
    refine Eq.next ?_
    refine Cq.els rfl ?_
    refine Cq.skip ?_
    refine Eq.next ?_
    refine Cq.seq ?_
    refine Cq.seq ?_
    refine Cq.region ?_
    refine Sq.move .plain rfl rfl ?_
    refine Sq.eql .plain rfl rfl rfl ?_
    refine Sq.part (fun c2 => ?_) (fun c2 => ?_)
    · refine Sq.nil ?_
      refine Eq.next ?_
      refine Cq.thn rfl ?_
      refine Cq.seq ?_
      refine Cq.region ?_
      refine Sq.assign .plain rfl rfl ?_
      refine Sq.nil ?_
      refine Eq.next ?_
      refine Cq.ret ?_
      refine Eq.pastRet ?_
      refine Eq.ret1 rfl rfl ?_
      exact ⟨by first | rw [fmtAl_bad (by omega)] | rw [fmtAl_zero (by omega)] | rw [fmtAl_good (by omega) (by omega) (k := k.toNat) (by omega)], E⟩
    · refine Sq.nil ?_
      refine Eq.next ?_
      refine Cq.els rfl ?_
      refine Cq.skip ?_
      refine Eq.next ?_
      refine Cq.seq ?_
      refine Cq.region ?_
      refine Sq.assign .plain rfl rfl ?_
      refine Sq.nil ?_
      refine Eq.next ?_
      refine Cq.seq ?_
      refine Cq.region ?_
      refine Sq.move .plain rfl rfl ?_
      refine Sq.call fn53 .plain rfl rfl (l1Letters_c _ (by omega) _) ?_
      rintro v3 w4 ⟨hl6, e5⟩
      have hs7 := Below.size E
      have hs8 := Below.size e5
      replace E := E.trans e5
      refine Sq.assign .plain rfl rfl ?_
      refine Sq.nil ?_
      refine Eq.next ?_
      refine Cq.seq ?_
      refine Cq.seq ?_
      refine Cq.region ?_
      refine Sq.assign .plain rfl rfl ?_
      refine Sq.nil ?_
      refine Eq.next ?_
      refine Cq.block ?_
      refine Cq.loop (fun nn w ls => ∃ (k : Int), ls = [(0, Value.int .i64 al), (3, Value.string (fmtTo al k.toNat)), (4, v3), (5, Value.int .i64 k)] ∧ (0 ≤ k ∧ k ≤ (letters al).length) ∧ Ext w0 w ∧ Own w w0.heap.size 3 v3 ((letters al).map (Value.int .i64)) ∧ nn = ((letters al).length - k).toNat) _ _ ⟨0, rfl, by omega, E, hl6, rfl⟩ (.cons rfl (.cons rfl (.cons rfl (.cons rfl (.nil))))) ?_
      rintro nn wl1 ls ⟨k, rfl, hk, E, hl6, rfl⟩
      have hs9 := Below.size E
      have hlet := letters_len6 al
      have hsz := fmtTo_size al k.toNat
      have hlt := letters_at al (k := k.toNat)
      refine Cq.seq ?_
      refine Cq.seq ?_
      refine Cq.region ?_
      refine Sq.move .plain rfl rfl ?_
      refine Sq.move .plain rfl rfl ?_
      refine Sq.lenInts (Own.row hl6) .plain rfl und56 rfl ?_
      refine Sq.lss .plain rfl rfl rfl ?_
      refine Sq.part (fun c10 => ?_) (fun c10 => ?_)
      · refine Sq.nil ?_
        refine Eq.next ?_
        refine Cq.thn rfl ?_
        refine Cq.skip ?_
        refine Eq.next ?_
        refine Cq.seq ?_
        refine Cq.block ?_
        refine Cq.region ?_
        refine Sq.move .plain rfl rfl ?_
        refine Sq.move .plain rfl rfl ?_
        refine Sq.move .plain rfl rfl ?_
        refine Sq.idxInts sl56 one3 (Own.row hl6) .plain rfl rfl rfl .plain rfl rfl (by omega) (by omega) ?_
        refine Sq.call fn98 .plain rfl rfl (l1Text_c ((letters al).getD k.toNat 0) (by (have := hlt (by omega); omega)) _) ?_
        rintro _ w12 ⟨rfl, e13⟩
        have hs14 := Below.size E
        have hs15 := Below.size e13
        replace E := E.trans e13
        replace hl6 := hl6.ext e13
        refine Sq.cat .plain rfl rfl rfl (by rw [chr_size]; omega) ?_
        refine Sq.assign .plain rfl rfl ?_
        refine Sq.nil ?_
        refine Eq.end ?_
        refine Eq.next ?_
        refine Cq.region ?_
        refine Sq.move .plain rfl rfl ?_
        refine Sq.add .plain rfl rfl rfl (by omega) ?_
        refine Sq.assign .plain rfl rfl ?_
        refine Sq.nil ?_
        have e1 := toNat_succ hk.1
        rw [← fmtTo_succ (by omega), ← e1]
        refine Eq.round _ _ ⟨k + 1, rfl, by omega, E, hl6, rfl⟩ (by omega) (.cons rfl (.cons rfl (.cons rfl (.cons rfl (.nil)))))
      · refine Sq.nil ?_
        refine Eq.next ?_
        refine Cq.els rfl ?_
        refine Cq.exit ?_
        refine Eq.past ?_
        refine Eq.past ?_
        refine Eq.hit ?_
        refine Eq.next ?_
        refine Cq.seq ?_
        refine Cq.region ?_
        refine Sq.move .plain rfl rfl ?_
        refine Sq.assign .plain rfl rfl ?_
        refine Sq.nil ?_
        refine Eq.next ?_
        refine Cq.ret ?_
        refine Eq.ret1 rfl rfl ?_
        exact ⟨by first | rw [fmtAl_bad (by omega)] | rw [fmtAl_zero (by omega)] | rw [fmtAl_good (by omega) (by omega) (k := k.toNat) (by omega)], E⟩
  · refine Sq.notF .plain rfl rfl ?_
    refine Sq.nil ?_
    refine Eq.next ?_
    refine Cq.thn rfl ?_
    refine Cq.seq ?_
    refine Cq.region ?_
    refine Sq.assign .plain rfl rfl ?_
    refine Sq.nil ?_
    refine Eq.next ?_
    refine Cq.ret ?_
    refine Eq.pastRet ?_
    refine Eq.ret1 rfl rfl ?_
    exact ⟨by first | rw [fmtAl_bad (by omega)] | rw [fmtAl_zero (by omega)] | rw [fmtAl_good (by omega) (by omega) (k := k.toNat) (by omega)], E⟩

set_option maxRecDepth 100000 in
theorem parseAl_c (s : ByteArray) (w0 : World) : Ret Try.prog 111 #[Value.string s] w0 (fun v w => (∃ n ok, v = .tuple #[.int .i64 n, .bool ok] ∧ 0 ≤ n ∧ n ≤ 63) ∧ Ext w0 w) := by
  have E := Ext.refl w0
  refine Ret.of (args := [Value.string s]) Try.func111 rfl rfl rfl ?_
  rintro _ rfl
  show Cq _ _ _ _ [(0, Value.string s)] _
  refine Cq.seq ?_
  refine Cq.region ?_
  refine Sq.assign .plain rfl rfl ?_
  refine Sq.assign .plain rfl rfl ?_
  refine Sq.nil ?_
  refine Eq.next ?_
  refine Cq.seq ?_
  refine Cq.seq ?_
  refine Cq.region ?_
  refine Sq.assign .plain rfl rfl ?_
  refine Sq.nil ?_
  refine Eq.next ?_
  refine Cq.block ?_
  refine Cq.loop (fun nn w ls => ∃ (k : Int), ls = [(0, Value.string s), (4, Value.int .i64 k)] ∧ (0 ≤ k ∧ k ≤ 64) ∧ Ext w0 w ∧ nn = (64 - k).toNat) _ _ ⟨0, rfl, by omega, E, rfl⟩ (.cons rfl (.cons rfl (.nil))) ?_
  rintro nn wl1 ls ⟨k, rfl, hk, E, rfl⟩
  have hs1 := Below.size E
  refine Cq.seq ?_
  refine Cq.seq ?_
  refine Cq.region ?_
  refine Sq.move .plain rfl rfl ?_
  refine Sq.leq .plain rfl rfl rfl ?_
  refine Sq.part (fun c2 => ?_) (fun c2 => ?_)
  · refine Sq.nil ?_
    refine Eq.next ?_
    refine Cq.thn rfl ?_
    refine Cq.skip ?_
    refine Eq.next ?_
    refine Cq.seq ?_
    refine Cq.block ?_
    refine Cq.seq ?_
    refine Cq.region ?_
    refine Sq.move .plain rfl rfl ?_
    refine Sq.call fn128 .plain rfl rfl (fmtAl_c k _) ?_
    rintro _ w4 ⟨rfl, e5⟩
    have hs6 := Below.size E
    have hs7 := Below.size e5
    replace E := E.trans e5
    refine Sq.move .plain rfl rfl ?_
    refine Sq.eqlS .plain rfl rfl rfl ?_
    refine Sq.part (fun c8 => ?_) (fun c8 => ?_)
    · refine Sq.nil ?_
      refine Eq.next ?_
      refine Cq.thn rfl ?_
      refine Cq.seq ?_
      refine Cq.region ?_
      refine Sq.move .plain rfl rfl ?_
      refine Sq.assign .plain rfl rfl ?_
      refine Sq.assign .plain rfl rfl ?_
      refine Sq.nil ?_
      refine Eq.next ?_
      refine Cq.ret ?_
      refine Eq.outRet ?_
      refine Eq.pastRet ?_
      refine Eq.pastRet ?_
      refine Eq.outRet ?_
      refine Eq.pastRet ?_
      refine Eq.ret2 rfl rfl rfl ?_
      exact ⟨⟨_, _, rfl, by omega⟩, E⟩
    · refine Sq.nil ?_
      refine Eq.next ?_
      refine Cq.els rfl ?_
      refine Cq.skip ?_
      refine Eq.end ?_
      refine Eq.next ?_
      refine Cq.region ?_
      refine Sq.move .plain rfl rfl ?_
      refine Sq.add .plain rfl rfl rfl (by omega) ?_
      refine Sq.assign .plain rfl rfl ?_
      refine Sq.nil ?_
      refine Eq.round _ _ ⟨k + 1, rfl, by omega, E, rfl⟩ (by omega) (.cons rfl (.cons rfl (.nil)))
  · refine Sq.nil ?_
    refine Eq.next ?_
    refine Cq.els rfl ?_
    refine Cq.exit ?_
    refine Eq.past ?_
    refine Eq.past ?_
    refine Eq.hit ?_
    refine Eq.next ?_
    refine Cq.seq ?_
    refine Cq.region ?_
    refine Sq.assign .plain rfl rfl ?_
    refine Sq.assign .plain rfl rfl ?_
    refine Sq.nil ?_
    refine Eq.next ?_
    refine Cq.ret ?_
    refine Eq.ret2 rfl rfl rfl ?_
    exact ⟨⟨_, _, rfl, by omega⟩, E⟩

set_option maxRecDepth 100000 in
theorem dec_c (n : Int) (hn : 0 ≤ n ∧ n ≤ 1000000) (w0 : World) : Ret Try.prog 130 #[Value.int .i64 n] w0 (fun v w => (∃ s, v = .string s ∧ (s.size : Int) ≤ n + 1) ∧ Ext w0 w) := by
  have E := Ext.refl w0
  refine Ret.of (args := [Value.int .i64 n]) Try.func130 rfl rfl rfl ?_
  rintro _ rfl
  show Cq _ _ _ _ [(0, Value.int .i64 n)] _
  refine Cq.seq ?_
  refine Cq.region ?_
  refine Sq.assign .plain rfl rfl ?_
  refine Sq.nil ?_
  refine Eq.next ?_
  refine Cq.seq ?_
  refine Cq.seq ?_
  refine Cq.region ?_
  refine Sq.move .plain rfl rfl ?_
  refine Sq.lss .plain rfl rfl rfl ?_
  refine Sq.isF (by omega) ?_
  refine Sq.nil ?_
  refine Eq.next ?_
  refine Cq.els rfl ?_
  refine Cq.skip ?_
  refine Eq.next ?_
  refine Cq.seq ?_
  refine Cq.seq ?_
  refine Cq.region ?_
  refine Sq.move .plain rfl rfl ?_
  refine Sq.lss .plain rfl rfl rfl ?_
  refine Sq.isF (by omega) ?_
  refine Sq.nil ?_
  refine Eq.next ?_
  refine Cq.els rfl ?_
  refine Cq.skip ?_
  refine Eq.next ?_
  refine Cq.seq ?_
  refine Cq.region ?_
  refine Sq.assign .plain rfl rfl ?_
  refine Sq.nil ?_
  refine Eq.next ?_
  refine Cq.seq ?_
  refine Cq.block ?_
  refine Cq.loop (fun nn w ls => ∃ (m : Int), ∃ (t : ByteArray), ls = [(0, Value.int .i64 m), (3, Value.string t)] ∧ (0 ≤ m ∧ m ≤ n ∧ (t.size : Int) + m ≤ n) ∧ Ext w0 w ∧ nn = m.toNat) _ _ ⟨_, _, rfl, ⟨by omega, by omega, by show ((0 : Nat) : Int) + n ≤ n; omega⟩, E, rfl⟩ (.cons rfl (.cons rfl (.nil))) ?_
  rintro nn wl1 ls ⟨m, t, rfl, hm, E, rfl⟩
  have hs1 := Below.size E
  refine Cq.seq ?_
  refine Cq.seq ?_
  refine Cq.region ?_
  refine Sq.move .plain rfl rfl ?_
  refine Sq.gtr .plain rfl rfl rfl ?_
  refine Sq.part (fun c2 => ?_) (fun c2 => ?_)
  · refine Sq.nil ?_
    refine Eq.next ?_
    refine Cq.thn rfl ?_
    refine Cq.skip ?_
    refine Eq.next ?_
    refine Cq.block ?_
    refine Cq.seq ?_
    refine Cq.region ?_
    refine Sq.move .plain rfl rfl ?_
    refine Sq.rem .plain rfl rfl rfl (by omega) ?_
    refine Sq.add .plain rfl rfl rfl (by omega) ?_
    refine Sq.conv8 conv3_5 .plain rfl rfl (by omega) ?_
    refine Sq.lit sl22 rfl rfl .plain rfl rfl (one_cons rfl one_nil) (fun b3 w4 e5 hlo6 ho7 _ => ?_)
    replace ho7 := ho7 wl1.heap.size (Nat.le_refl _)
    have hs9 := Below.size e5
    replace E := E.trans e5
    refine Sq.val .plain rfl rfl (Still.text1 und22 und8_22 und9 ho7 (by omega) rfl) ?_
    refine Sq.move .plain rfl rfl ?_
    refine Sq.cat .plain rfl rfl rfl (by show (1 + t.size : Nat) ≤ _; omega) ?_
    refine Sq.assign .plain rfl rfl ?_
    refine Sq.nil ?_
    refine Eq.next ?_
    refine Cq.region ?_
    refine Sq.move .plain rfl rfl ?_
    refine Sq.quo .plain rfl rfl rfl (by omega) ?_
    refine Sq.assign .plain rfl rfl ?_
    refine Sq.nil ?_
    refine Eq.end ?_
    refine Eq.round _ _ ⟨_, _, rfl, by rw [size_cat]; refine ⟨by omega, by omega, ?_⟩; show ((1 + t.size : Nat) : Int) + _ ≤ _; omega, E, rfl⟩ (by omega) (.cons rfl (.cons rfl (.nil)))
  · refine Sq.nil ?_
    refine Eq.next ?_
    refine Cq.els rfl ?_
    refine Cq.exit ?_
    refine Eq.past ?_
    refine Eq.past ?_
    refine Eq.hit ?_
    refine Eq.next ?_
    refine Cq.seq ?_
    refine Cq.region ?_
    refine Sq.move .plain rfl rfl ?_
    refine Sq.add .plain rfl rfl rfl (by omega) ?_
    refine Sq.conv8 conv3_5 .plain rfl rfl (by omega) ?_
    refine Sq.lit sl22 rfl rfl .plain rfl rfl (one_cons rfl one_nil) (fun b10 w11 e12 hlo13 ho14 _ => ?_)
    replace ho14 := ho14 wl1.heap.size (Nat.le_refl _)
    have hs16 := Below.size e12
    replace E := E.trans e12
    refine Sq.val .plain rfl rfl (Still.text1 und22 und8_22 und9 ho14 (by omega) rfl) ?_
    refine Sq.move .plain rfl rfl ?_
    refine Sq.cat .plain rfl rfl rfl (by show (1 + t.size : Nat) ≤ _; omega) ?_
    refine Sq.assign .plain rfl rfl ?_
    refine Sq.nil ?_
    refine Eq.next ?_
    refine Cq.ret ?_
    refine Eq.ret1 rfl rfl ?_
    exact ⟨⟨_, rfl, by rw [size_cat]; show ((1 + t.size : Nat) : Int) ≤ _; omega⟩, E⟩

set_option maxRecDepth 100000 in
theorem cut_c (s : ByteArray) (c : Int) (hs : s.size ≤ 1000000) (w0 : World) : Ret Try.prog 110 #[Value.string s, Value.int .u8 c] w0 (fun v w => (∃ xs : List ByteArray, Own w w0.heap.size 9 v (xs.map Value.string) ∧ (1 ≤ xs.length ∧ xs.length ≤ s.size + 1) ∧ ∀ x ∈ xs, x.size ≤ s.size) ∧ Ext w0 w) := by
  have E := Ext.refl w0
  refine Ret.of (args := [Value.string s, Value.int .u8 c]) Try.func110 rfl rfl rfl ?_
  rintro _ rfl
  show Cq _ _ _ _ [(0, Value.string s), (1, Value.int .u8 c)] _
  refine Cq.seq ?_
  refine Cq.region ?_
  refine Sq.assign .plain rfl rfl ?_
  refine Sq.nil ?_
  refine Eq.next ?_
  refine Cq.seq ?_
  refine Cq.region ?_
  refine Sq.lit sl91 rfl rfl .plain rfl rfl one_nil (fun b1 w2 e3 hlo4 ho5 _ => ?_)
  replace ho5 := ho5 w0.heap.size (Nat.le_refl _)
  have hs7 := Below.size e3
  replace E := E.trans e3
  refine Sq.assign .plain rfl rfl ?_
  refine Sq.nil ?_
  refine Eq.next ?_
  refine Cq.seq ?_
  refine Cq.region ?_
  refine Sq.assign .plain rfl rfl ?_
  refine Sq.nil ?_
  refine Eq.next ?_
  refine Cq.seq ?_
  refine Cq.seq ?_
  refine Cq.region ?_
  refine Sq.assign .plain rfl rfl ?_
  refine Sq.nil ?_
  refine Eq.next ?_
  refine Cq.block ?_
  refine Cq.loop (fun nn w ls => ∃ (i : Int), ∃ (q : Int), ∃ (v : Value), ∃ (xs : List ByteArray), ls = [(0, Value.string s), (1, Value.int .u8 c), (5, v), (6, Value.int .i64 q), (7, Value.int .i64 i)] ∧ (0 ≤ q ∧ q ≤ i ∧ i ≤ s.size + 1) ∧ Own w w0.heap.size 9 v (xs.map Value.string) ∧ ((xs.length : Int) ≤ i ∧ (i = s.size + 1 → 1 ≤ xs.length) ∧ ∀ x ∈ xs, x.size ≤ s.size) ∧ Ext w0 w ∧ nn = ((s.size : Int) + 1 - i).toNat) _ _ ⟨0, 0, _, [], rfl, by omega, Own.mono ho5 (by omega), ⟨by simp, by intro h; omega, by simp⟩, E, rfl⟩ (.cons rfl (.cons rfl (.cons rfl (.cons rfl (.cons rfl (.nil)))))) ?_
  rintro nn wl1 ls ⟨i, q, v, xs, rfl, hi, ho, hl, E, rfl⟩
  have hs8 := Below.size E
  refine Cq.seq ?_
  refine Cq.seq ?_
  refine Cq.region ?_
  refine Sq.move .plain rfl rfl ?_
  refine Sq.move .plain rfl rfl ?_
  refine Sq.lenStr .plain rfl und9 rfl ?_
  refine Sq.leq .plain rfl rfl rfl ?_
  refine Sq.part (fun c9 => ?_) (fun c9 => ?_)
  · refine Sq.nil ?_
    refine Eq.next ?_
    refine Cq.thn rfl ?_
    refine Cq.skip ?_
    refine Eq.next ?_
    refine Cq.seq ?_
    refine Cq.block ?_
    refine Cq.seq ?_
    refine Cq.region ?_
    refine Sq.move .plain rfl rfl ?_
    refine Sq.move .plain rfl rfl ?_
    refine Sq.lenStr .plain rfl und9 rfl ?_
    refine Sq.eql .plain rfl rfl rfl ?_
    refine Sq.part (fun c10 => ?_) (fun c10 => ?_)
    · refine Sq.move .plain rfl rfl ?_
      refine Sq.off rfl rfl rfl rfl rfl rfl ?_
      refine Sq.off rfl rfl rfl rfl rfl rfl ?_
      refine Sq.off rfl rfl rfl rfl rfl rfl ?_
      refine Sq.off rfl rfl rfl rfl rfl rfl ?_
      refine Sq.off rfl rfl rfl rfl rfl rfl ?_
      refine Sq.pickT .plain rfl rfl rfl ?_
      refine Sq.nil ?_
      refine Eq.next ?_
      refine Cq.thn rfl ?_
      refine Cq.seq ?_
      refine Cq.region ?_
      refine Sq.move .plain rfl rfl ?_
      refine Sq.move .plain rfl rfl ?_
      refine Sq.move .plain rfl rfl ?_
      refine Sq.move .plain rfl rfl ?_
      refine Sq.val .plain rfl rfl (Still.cutLH und9 rfl rfl rfl (by omega)) ?_
      refine Sq.app1 sl91 ho (by omega) (by simp; omega) .plain rfl rfl rfl rfl rfl rfl rfl (fun v11 w12 ho14 g13 _ => ?_)
      have hs15 := g13.size
      replace E := E.owned ho g13 (by omega)
      refine Sq.assign .plain rfl rfl ?_
      refine Sq.nil ?_
      refine Eq.next ?_
      refine Cq.region ?_
      refine Sq.move .plain rfl rfl ?_
      refine Sq.add .plain rfl rfl rfl (by omega) ?_
      refine Sq.assign .plain rfl rfl ?_
      refine Sq.nil ?_
      refine Eq.end ?_
      refine Eq.next ?_
      refine Cq.region ?_
      refine Sq.move .plain rfl rfl ?_
      refine Sq.add .plain rfl rfl rfl (by omega) ?_
      refine Sq.assign .plain rfl rfl ?_
      refine Sq.nil ?_
      refine Eq.round _ _ ⟨i + 1, _, _, _, rfl, by omega, Own.snocS ho14, ⟨by simp; omega, by intro h; simp, all_app hl.2.2 (size_cut s)⟩, E, rfl⟩ (by omega) (.cons rfl (.cons rfl (.cons rfl (.cons rfl (.cons rfl (.nil))))))
    · refine Sq.move .plain rfl rfl ?_
      refine Sq.move (.met rfl rfl rfl) rfl rfl ?_
      refine Sq.move (.met rfl rfl rfl) rfl rfl ?_
      refine Sq.idxStr (.met rfl rfl rfl) rfl und9 rfl rfl (by omega) (str_at (by omega)) ?_
      refine Sq.move (.met rfl rfl rfl) rfl rfl ?_
      refine Sq.eql (.met rfl rfl rfl) rfl rfl rfl ?_
      refine Sq.part (fun c17 => ?_) (fun c17 => ?_)
      · refine Sq.pickF .plain rfl rfl rfl ?_
        refine Sq.nil ?_
        refine Eq.next ?_
        refine Cq.thn rfl ?_
        refine Cq.seq ?_
        refine Cq.region ?_
        refine Sq.move .plain rfl rfl ?_
        refine Sq.move .plain rfl rfl ?_
        refine Sq.move .plain rfl rfl ?_
        refine Sq.move .plain rfl rfl ?_
        refine Sq.val .plain rfl rfl (Still.cutLH und9 rfl rfl rfl (by omega)) ?_
        refine Sq.app1 sl91 ho (by omega) (by simp; omega) .plain rfl rfl rfl rfl rfl rfl rfl (fun v18 w19 ho21 g20 _ => ?_)
        have hs22 := g20.size
        replace E := E.owned ho g20 (by omega)
        refine Sq.assign .plain rfl rfl ?_
        refine Sq.nil ?_
        refine Eq.next ?_
        refine Cq.region ?_
        refine Sq.move .plain rfl rfl ?_
        refine Sq.add .plain rfl rfl rfl (by omega) ?_
        refine Sq.assign .plain rfl rfl ?_
        refine Sq.nil ?_
        refine Eq.end ?_
        refine Eq.next ?_
        refine Cq.region ?_
        refine Sq.move .plain rfl rfl ?_
        refine Sq.add .plain rfl rfl rfl (by omega) ?_
        refine Sq.assign .plain rfl rfl ?_
        refine Sq.nil ?_
        refine Eq.round _ _ ⟨i + 1, _, _, _, rfl, by omega, Own.snocS ho21, ⟨by simp; omega, by intro h; simp, all_app hl.2.2 (size_cut s)⟩, E, rfl⟩ (by omega) (.cons rfl (.cons rfl (.cons rfl (.cons rfl (.cons rfl (.nil))))))
      · refine Sq.pickF .plain rfl rfl rfl ?_
        refine Sq.nil ?_
        refine Eq.next ?_
        refine Cq.els rfl ?_
        refine Cq.skip ?_
        refine Eq.end ?_
        refine Eq.next ?_
        refine Cq.region ?_
        refine Sq.move .plain rfl rfl ?_
        refine Sq.add .plain rfl rfl rfl (by omega) ?_
        refine Sq.assign .plain rfl rfl ?_
        refine Sq.nil ?_
        refine Eq.round _ _ ⟨i + 1, _, _, _, rfl, by omega, ho, ⟨by omega, by intro h; omega, hl.2.2⟩, E, rfl⟩ (by omega) (.cons rfl (.cons rfl (.cons rfl (.cons rfl (.cons rfl (.nil))))))
  · refine Sq.nil ?_
    refine Eq.next ?_
    refine Cq.els rfl ?_
    refine Cq.exit ?_
    refine Eq.past ?_
    refine Eq.past ?_
    refine Eq.hit ?_
    refine Eq.next ?_
    refine Cq.seq ?_
    refine Cq.region ?_
    refine Sq.move .plain rfl rfl ?_
    refine Sq.assign .plain rfl rfl ?_
    refine Sq.nil ?_
    refine Eq.next ?_
    refine Cq.ret ?_
    refine Eq.ret1 rfl rfl ?_
    exact ⟨⟨xs, ho, by omega, hl.2.2⟩, E⟩

set_option maxRecDepth 100000 in
theorem num10_c (s : ByteArray) (hs : s.size ≤ 1000000) (w0 : World) : Ret Try.prog 129 #[Value.string s] w0 (fun v w => (∃ n ok, v = .tuple #[.int .i64 n, .bool ok] ∧ -1000000000000000000 ≤ n ∧ n ≤ 1000000000000000000) ∧ w0 = w) := by
  refine Ret.of (args := [Value.string s]) Try.func129 rfl rfl rfl ?_
  rintro _ rfl
  show Cq _ _ _ _ [(0, Value.string s)] _
  refine Cq.seq ?_
  refine Cq.region ?_
  refine Sq.assign .plain rfl rfl ?_
  refine Sq.assign .plain rfl rfl ?_
  refine Sq.nil ?_
  refine Eq.next ?_
  refine Cq.seq ?_
  refine Cq.region ?_
  refine Sq.move .plain rfl rfl ?_
  refine Sq.lenStr .plain rfl und9 rfl ?_
  refine Sq.gtr .plain rfl rfl rfl ?_
  refine Sq.part (fun c1 => ?_) (fun c1 => ?_)
  · refine Sq.move .plain rfl rfl ?_
    refine Sq.move (.met rfl rfl rfl) rfl rfl ?_
    refine Sq.idxStr (.met rfl rfl rfl) rfl und9 rfl rfl (by omega) (str_at (by omega)) ?_
    refine Sq.eql (.met rfl rfl rfl) rfl rfl rfl ?_
    refine Sq.part (fun c3 => ?_) (fun c3 => ?_)
    · refine Sq.pickT .plain rfl rfl rfl ?_
      refine Sq.assign .plain rfl rfl ?_
      refine Sq.nil ?_
      refine Eq.next ?_
      refine Cq.seq ?_
      refine Cq.seq ?_
      refine Cq.region ?_
      refine Sq.move .plain rfl rfl ?_
      refine Sq.nil ?_
      refine Eq.next ?_
      refine Cq.thn rfl ?_
      refine Cq.region ?_
      refine Sq.move .plain rfl rfl ?_
      refine Sq.val .plain rfl rfl (Still.cutL und9 rfl rfl (by omega)) ?_
      refine Sq.assign .plain rfl rfl ?_
      refine Sq.nil ?_
      refine Eq.next ?_
      refine Cq.seq ?_
      refine Cq.seq ?_
      refine Cq.region ?_
      have hcut : (((s.extract (1 : Int).toNat s.size)).size : Int) = s.size - 1 := by rw [ByteArray.size_extract]; omega
      refine Sq.move .plain rfl rfl ?_
      refine Sq.lenStr .plain rfl und9 rfl ?_
      refine Sq.eql .plain rfl rfl rfl ?_
      refine Sq.part (fun c4 => ?_) (fun c4 => ?_)
      · refine Sq.move .plain rfl rfl ?_
        refine Sq.off rfl rfl rfl rfl rfl rfl ?_
        refine Sq.off rfl rfl rfl rfl rfl rfl ?_
        refine Sq.off rfl rfl rfl rfl rfl rfl ?_
        refine Sq.pickT .plain rfl rfl rfl ?_
        refine Sq.move .plain rfl rfl ?_
        refine Sq.off rfl rfl rfl rfl rfl rfl ?_
        refine Sq.off rfl rfl rfl rfl rfl rfl ?_
        refine Sq.off rfl rfl rfl rfl rfl rfl ?_
        refine Sq.off rfl rfl rfl rfl rfl rfl ?_
        refine Sq.offU rfl rfl rfl rfl rfl rfl ?_
        refine Sq.offU rfl rfl rfl rfl rfl rfl ?_
        refine Sq.offU rfl rfl rfl rfl rfl rfl ?_
        refine Sq.offU rfl rfl rfl rfl rfl rfl ?_
        refine Sq.offU rfl rfl rfl rfl rfl rfl ?_
        refine Sq.offU rfl rfl rfl rfl rfl rfl ?_
        refine Sq.off rfl rfl rfl rfl rfl rfl ?_
        refine Sq.pickT .plain rfl rfl rfl ?_
        refine Sq.nil ?_
        refine Eq.next ?_
        refine Cq.thn rfl ?_
        refine Cq.seq ?_
        refine Cq.region ?_
        refine Sq.assign .plain rfl rfl ?_
        refine Sq.assign .plain rfl rfl ?_
        refine Sq.nil ?_
        refine Eq.next ?_
        refine Cq.ret ?_
        refine Eq.pastRet ?_
        refine Eq.ret2 rfl rfl rfl ?_
        exact ⟨⟨_, _, rfl, by omega⟩, rfl⟩
      · refine Sq.move .plain rfl rfl ?_
        refine Sq.move (.met rfl rfl rfl) rfl rfl ?_
        refine Sq.lenStr (.met rfl rfl rfl) rfl und9 rfl ?_
        refine Sq.gtr (.met rfl rfl rfl) rfl rfl rfl ?_
        refine Sq.part (fun c5 => ?_) (fun c5 => ?_)
        · refine Sq.pickF .plain rfl rfl rfl ?_
          refine Sq.move .plain rfl rfl ?_
          refine Sq.off rfl rfl rfl rfl rfl rfl ?_
          refine Sq.off rfl rfl rfl rfl rfl rfl ?_
          refine Sq.off rfl rfl rfl rfl rfl rfl ?_
          refine Sq.off rfl rfl rfl rfl rfl rfl ?_
          refine Sq.offU rfl rfl rfl rfl rfl rfl ?_
          refine Sq.offU rfl rfl rfl rfl rfl rfl ?_
          refine Sq.offU rfl rfl rfl rfl rfl rfl ?_
          refine Sq.offU rfl rfl rfl rfl rfl rfl ?_
          refine Sq.offU rfl rfl rfl rfl rfl rfl ?_
          refine Sq.offU rfl rfl rfl rfl rfl rfl ?_
          refine Sq.off rfl rfl rfl rfl rfl rfl ?_
          refine Sq.pickT .plain rfl rfl rfl ?_
          refine Sq.nil ?_
          refine Eq.next ?_
          refine Cq.thn rfl ?_
          refine Cq.seq ?_
          refine Cq.region ?_
          refine Sq.assign .plain rfl rfl ?_
          refine Sq.assign .plain rfl rfl ?_
          refine Sq.nil ?_
          refine Eq.next ?_
          refine Cq.ret ?_
          refine Eq.pastRet ?_
          refine Eq.ret2 rfl rfl rfl ?_
          exact ⟨⟨_, _, rfl, by omega⟩, rfl⟩
        · refine Sq.pickF .plain rfl rfl rfl ?_
          refine Sq.move .plain rfl rfl ?_
          refine Sq.move (.met rfl rfl rfl) rfl rfl ?_
          refine Sq.idxStr (.met rfl rfl rfl) rfl und9 rfl rfl (by omega) (str_at (by omega)) ?_
          refine Sq.eql (.met rfl rfl rfl) rfl rfl rfl ?_
          refine Sq.part (fun c7 => ?_) (fun c7 => ?_)
          · refine Sq.move (.met rfl rfl rfl) rfl rfl ?_
            refine Sq.move (.met rfl rfl rfl) rfl rfl ?_
            refine Sq.lenStr (.met rfl rfl rfl) rfl und9 rfl ?_
            refine Sq.gtr (.met rfl rfl rfl) rfl rfl rfl ?_
            refine Sq.part (fun c8 => ?_) (fun c8 => ?_)
            · refine Sq.move (.met rfl rfl rfl) rfl rfl ?_
              refine Sq.off rfl rfl rfl rfl rfl rfl ?_
              refine Sq.pickT (.met rfl rfl rfl) rfl rfl rfl ?_
              refine Sq.pickT (.met rfl rfl rfl) rfl rfl rfl ?_
              refine Sq.pickF .plain rfl rfl rfl ?_
              refine Sq.nil ?_
              refine Eq.next ?_
              refine Cq.thn rfl ?_
              refine Cq.seq ?_
              refine Cq.region ?_
              refine Sq.assign .plain rfl rfl ?_
              refine Sq.assign .plain rfl rfl ?_
              refine Sq.nil ?_
              refine Eq.next ?_
              refine Cq.ret ?_
              refine Eq.pastRet ?_
              refine Eq.ret2 rfl rfl rfl ?_
              exact ⟨⟨_, _, rfl, by omega⟩, rfl⟩
            · refine Sq.move (.met rfl rfl rfl) rfl rfl ?_
              refine Sq.move (.met rfl rfl rfl) rfl rfl ?_
              refine Sq.pickF (.met rfl rfl rfl) rfl rfl rfl ?_
              refine Sq.pickT (.met rfl rfl rfl) rfl rfl rfl ?_
              refine Sq.pickF .plain rfl rfl rfl ?_
              refine Sq.nil ?_
              refine Eq.next ?_
              refine Cq.thn rfl ?_
              refine Cq.seq ?_
              refine Cq.region ?_
              refine Sq.assign .plain rfl rfl ?_
              refine Sq.assign .plain rfl rfl ?_
              refine Sq.nil ?_
              refine Eq.next ?_
              refine Cq.ret ?_
              refine Eq.pastRet ?_
              refine Eq.ret2 rfl rfl rfl ?_
              exact ⟨⟨_, _, rfl, by omega⟩, rfl⟩
          · refine Sq.move (.met rfl rfl rfl) rfl rfl ?_
            refine Sq.off rfl rfl rfl rfl rfl rfl ?_
            refine Sq.off rfl rfl rfl rfl rfl rfl ?_
            refine Sq.off rfl rfl rfl rfl rfl rfl ?_
            refine Sq.off rfl rfl rfl rfl rfl rfl ?_
            refine Sq.offU rfl rfl rfl rfl rfl rfl ?_
            refine Sq.off rfl rfl rfl rfl rfl rfl ?_
            refine Sq.pickF (.met rfl rfl rfl) rfl rfl rfl ?_
            refine Sq.pickF .plain rfl rfl rfl ?_
            refine Sq.nil ?_
            refine Eq.next ?_
            refine Cq.els rfl ?_
            refine Cq.skip ?_
            refine Eq.next ?_
            refine Cq.seq ?_
            refine Cq.region ?_
            refine Sq.assign .plain rfl rfl ?_
            refine Sq.nil ?_
            refine Eq.next ?_
            refine Cq.seq ?_
            refine Cq.seq ?_
            refine Cq.region ?_
            refine Sq.assign .plain rfl rfl ?_
            refine Sq.nil ?_
            refine Eq.next ?_
            refine Cq.block ?_
            refine Cq.loop (fun nn w ls => ∃ (k : Int), ∃ (n : Int), ls = [(0, Value.string ((s.extract (1 : Int).toNat s.size))), (4, Value.bool true), (5, Value.int .i64 n), (6, Value.int .i64 k)] ∧ w0 = w ∧ (0 ≤ k ∧ k ≤ ((s.extract (1 : Int).toNat s.size)).size) ∧ (((s.extract (1 : Int).toNat s.size)).size ≤ 17) ∧ (0 ≤ n ∧ n < 10 ^ k.toNat) ∧ nn = ((((s.extract (1 : Int).toNat s.size)).size : Int) - k).toNat) _ _ ⟨0, 0, rfl, rfl, by omega, by omega, by decide, rfl⟩ (.cons rfl (.cons rfl (.cons rfl (.cons rfl (.nil))))) ?_
            rintro n1 w ls ⟨k, n, rfl, rfl, hk, hz, hn, rfl⟩
            have hp := pow_small (k := k.toNat) (by omega)
            refine Cq.seq ?_
            refine Cq.seq ?_
            refine Cq.region ?_
            refine Sq.move .plain rfl rfl ?_
            refine Sq.move .plain rfl rfl ?_
            refine Sq.lenStr .plain rfl und9 rfl ?_
            refine Sq.lss .plain rfl rfl rfl ?_
            refine Sq.part (fun c9 => ?_) (fun c9 => ?_)
            · refine Sq.nil ?_
              refine Eq.next ?_
              refine Cq.thn rfl ?_
              refine Cq.skip ?_
              refine Eq.next ?_
              refine Cq.seq ?_
              refine Cq.block ?_
              refine Cq.seq ?_
              refine Cq.seq ?_
              refine Cq.region ?_
              refine Sq.move .plain rfl rfl ?_
              refine Sq.move .plain rfl rfl ?_
              refine Sq.idxStr .plain rfl und9 rfl rfl (by omega) (str_at (by omega)) ?_
              refine Sq.lss .plain rfl rfl rfl ?_
              refine Sq.part (fun c11 => ?_) (fun c11 => ?_)
              · refine Sq.move .plain rfl rfl ?_
                refine Sq.off rfl rfl rfl rfl rfl rfl ?_
                refine Sq.off rfl rfl rfl rfl rfl rfl ?_
                refine Sq.off rfl rfl rfl rfl rfl rfl ?_
                refine Sq.off rfl rfl rfl rfl rfl rfl ?_
                refine Sq.pickT .plain rfl rfl rfl ?_
                refine Sq.nil ?_
                refine Eq.next ?_
                refine Cq.thn rfl ?_
                refine Cq.seq ?_
                refine Cq.region ?_
                refine Sq.assign .plain rfl rfl ?_
                refine Sq.assign .plain rfl rfl ?_
                refine Sq.nil ?_
                refine Eq.next ?_
                refine Cq.ret ?_
                refine Eq.pastRet ?_
                refine Eq.outRet ?_
                refine Eq.pastRet ?_
                refine Eq.pastRet ?_
                refine Eq.outRet ?_
                refine Eq.pastRet ?_
                refine Eq.ret2 rfl rfl rfl ?_
                exact ⟨⟨_, _, rfl, by omega⟩, rfl⟩
              · refine Sq.move .plain rfl rfl ?_
                refine Sq.move (.met rfl rfl rfl) rfl rfl ?_
                refine Sq.move (.met rfl rfl rfl) rfl rfl ?_
                refine Sq.idxStr (.met rfl rfl rfl) rfl und9 rfl rfl (by omega) (str_at (by omega)) ?_
                refine Sq.gtr (.met rfl rfl rfl) rfl rfl rfl ?_
                refine Sq.part (fun c13 => ?_) (fun c13 => ?_)
                · refine Sq.pickF .plain rfl rfl rfl ?_
                  refine Sq.nil ?_
                  refine Eq.next ?_
                  refine Cq.thn rfl ?_
                  refine Cq.seq ?_
                  refine Cq.region ?_
                  refine Sq.assign .plain rfl rfl ?_
                  refine Sq.assign .plain rfl rfl ?_
                  refine Sq.nil ?_
                  refine Eq.next ?_
                  refine Cq.ret ?_
                  refine Eq.pastRet ?_
                  refine Eq.outRet ?_
                  refine Eq.pastRet ?_
                  refine Eq.pastRet ?_
                  refine Eq.outRet ?_
                  refine Eq.pastRet ?_
                  refine Eq.ret2 rfl rfl rfl ?_
                  exact ⟨⟨_, _, rfl, by omega⟩, rfl⟩
                · refine Sq.pickF .plain rfl rfl rfl ?_
                  refine Sq.nil ?_
                  refine Eq.next ?_
                  refine Cq.els rfl ?_
                  refine Cq.skip ?_
                  refine Eq.next ?_
                  refine Cq.region ?_
                  refine Sq.move .plain rfl rfl ?_
                  refine Sq.mul .plain rfl rfl rfl (by omega) ?_
                  refine Sq.move .plain rfl rfl ?_
                  refine Sq.move .plain rfl rfl ?_
                  refine Sq.idxStr .plain rfl und9 rfl rfl (by omega) (str_at (by omega)) ?_
                  refine Sq.sub8 .plain rfl rfl rfl (by omega) ?_
                  refine Sq.conv conv5_3 .plain rfl rfl (by omega) ?_
                  refine Sq.add .plain rfl rfl rfl (by omega) ?_
                  refine Sq.assign .plain rfl rfl ?_
                  refine Sq.nil ?_
                  refine Eq.end ?_
                  refine Eq.next ?_
                  refine Cq.region ?_
                  refine Sq.move .plain rfl rfl ?_
                  refine Sq.add .plain rfl rfl rfl (by omega) ?_
                  refine Sq.assign .plain rfl rfl ?_
                  refine Sq.nil ?_
                  have e1 := toNat_succ hk.1
                  refine Eq.round _ _ ⟨k + 1, _, rfl, rfl, by omega, hz, by rw [e1]; exact pow_step hn (by omega), rfl⟩ (by omega) (.cons rfl (.cons rfl (.cons rfl (.cons rfl (.nil)))))
            · refine Sq.nil ?_
              refine Eq.next ?_
              refine Cq.els rfl ?_
              refine Cq.exit ?_
              refine Eq.past ?_
              refine Eq.past ?_
              refine Eq.hit ?_
              refine Eq.next ?_
              refine Cq.seq ?_
              refine Cq.seq ?_
              refine Cq.region ?_
              refine Sq.move .plain rfl rfl ?_
              refine Sq.nil ?_
              refine Eq.next ?_
              refine Cq.thn rfl ?_
              refine Cq.region ?_
              refine Sq.move .plain rfl rfl ?_
              refine Sq.neg .plain rfl rfl (by omega) ?_
              refine Sq.assign .plain rfl rfl ?_
              refine Sq.nil ?_
              refine Eq.next ?_
              refine Cq.seq ?_
              refine Cq.region ?_
              refine Sq.move .plain rfl rfl ?_
              refine Sq.assign .plain rfl rfl ?_
              refine Sq.assign .plain rfl rfl ?_
              refine Sq.nil ?_
              refine Eq.next ?_
              refine Cq.ret ?_
              refine Eq.ret2 rfl rfl rfl ?_
              exact ⟨⟨_, _, rfl, by omega⟩, rfl⟩
    · refine Sq.pickT .plain rfl rfl rfl ?_
      refine Sq.assign .plain rfl rfl ?_
      refine Sq.nil ?_
      refine Eq.next ?_
      refine Cq.seq ?_
      refine Cq.seq ?_
      refine Cq.region ?_
      refine Sq.move .plain rfl rfl ?_
      refine Sq.nil ?_
      refine Eq.next ?_
      refine Cq.els rfl ?_
      refine Cq.skip ?_
      refine Eq.next ?_
      refine Cq.seq ?_
      refine Cq.seq ?_
      refine Cq.region ?_
      refine Sq.move .plain rfl rfl ?_
      refine Sq.lenStr .plain rfl und9 rfl ?_
      refine Sq.eql .plain rfl rfl rfl ?_
      refine Sq.part (fun c15 => ?_) (fun c15 => ?_)
      · refine Sq.move .plain rfl rfl ?_
        refine Sq.off rfl rfl rfl rfl rfl rfl ?_
        refine Sq.off rfl rfl rfl rfl rfl rfl ?_
        refine Sq.off rfl rfl rfl rfl rfl rfl ?_
        refine Sq.pickT .plain rfl rfl rfl ?_
        refine Sq.move .plain rfl rfl ?_
        refine Sq.off rfl rfl rfl rfl rfl rfl ?_
        refine Sq.off rfl rfl rfl rfl rfl rfl ?_
        refine Sq.off rfl rfl rfl rfl rfl rfl ?_
        refine Sq.off rfl rfl rfl rfl rfl rfl ?_
        refine Sq.offU rfl rfl rfl rfl rfl rfl ?_
        refine Sq.offU rfl rfl rfl rfl rfl rfl ?_
        refine Sq.offU rfl rfl rfl rfl rfl rfl ?_
        refine Sq.offU rfl rfl rfl rfl rfl rfl ?_
        refine Sq.offU rfl rfl rfl rfl rfl rfl ?_
        refine Sq.offU rfl rfl rfl rfl rfl rfl ?_
        refine Sq.off rfl rfl rfl rfl rfl rfl ?_
        refine Sq.pickT .plain rfl rfl rfl ?_
        refine Sq.nil ?_
        refine Eq.next ?_
        refine Cq.thn rfl ?_
        refine Cq.seq ?_
        refine Cq.region ?_
        refine Sq.assign .plain rfl rfl ?_
        refine Sq.assign .plain rfl rfl ?_
        refine Sq.nil ?_
        refine Eq.next ?_
        refine Cq.ret ?_
        refine Eq.pastRet ?_
        refine Eq.ret2 rfl rfl rfl ?_
        exact ⟨⟨_, _, rfl, by omega⟩, rfl⟩
      · refine Sq.move .plain rfl rfl ?_
        refine Sq.move (.met rfl rfl rfl) rfl rfl ?_
        refine Sq.lenStr (.met rfl rfl rfl) rfl und9 rfl ?_
        refine Sq.gtr (.met rfl rfl rfl) rfl rfl rfl ?_
        refine Sq.part (fun c16 => ?_) (fun c16 => ?_)
        · refine Sq.pickF .plain rfl rfl rfl ?_
          refine Sq.move .plain rfl rfl ?_
          refine Sq.off rfl rfl rfl rfl rfl rfl ?_
          refine Sq.off rfl rfl rfl rfl rfl rfl ?_
          refine Sq.off rfl rfl rfl rfl rfl rfl ?_
          refine Sq.off rfl rfl rfl rfl rfl rfl ?_
          refine Sq.offU rfl rfl rfl rfl rfl rfl ?_
          refine Sq.offU rfl rfl rfl rfl rfl rfl ?_
          refine Sq.offU rfl rfl rfl rfl rfl rfl ?_
          refine Sq.offU rfl rfl rfl rfl rfl rfl ?_
          refine Sq.offU rfl rfl rfl rfl rfl rfl ?_
          refine Sq.offU rfl rfl rfl rfl rfl rfl ?_
          refine Sq.off rfl rfl rfl rfl rfl rfl ?_
          refine Sq.pickT .plain rfl rfl rfl ?_
          refine Sq.nil ?_
          refine Eq.next ?_
          refine Cq.thn rfl ?_
          refine Cq.seq ?_
          refine Cq.region ?_
          refine Sq.assign .plain rfl rfl ?_
          refine Sq.assign .plain rfl rfl ?_
          refine Sq.nil ?_
          refine Eq.next ?_
          refine Cq.ret ?_
          refine Eq.pastRet ?_
          refine Eq.ret2 rfl rfl rfl ?_
          exact ⟨⟨_, _, rfl, by omega⟩, rfl⟩
        · refine Sq.pickF .plain rfl rfl rfl ?_
          refine Sq.move .plain rfl rfl ?_
          refine Sq.move (.met rfl rfl rfl) rfl rfl ?_
          refine Sq.idxStr (.met rfl rfl rfl) rfl und9 rfl rfl (by omega) (str_at (by omega)) ?_
          refine Sq.eql (.met rfl rfl rfl) rfl rfl rfl ?_
          refine Sq.part (fun c18 => ?_) (fun c18 => ?_)
          · refine Sq.move (.met rfl rfl rfl) rfl rfl ?_
            refine Sq.move (.met rfl rfl rfl) rfl rfl ?_
            refine Sq.lenStr (.met rfl rfl rfl) rfl und9 rfl ?_
            refine Sq.gtr (.met rfl rfl rfl) rfl rfl rfl ?_
            refine Sq.part (fun c19 => ?_) (fun c19 => ?_)
            · refine Sq.move (.met rfl rfl rfl) rfl rfl ?_
              refine Sq.off rfl rfl rfl rfl rfl rfl ?_
              refine Sq.pickT (.met rfl rfl rfl) rfl rfl rfl ?_
              refine Sq.pickT (.met rfl rfl rfl) rfl rfl rfl ?_
              refine Sq.pickF .plain rfl rfl rfl ?_
              refine Sq.nil ?_
              refine Eq.next ?_
              refine Cq.thn rfl ?_
              refine Cq.seq ?_
              refine Cq.region ?_
              refine Sq.assign .plain rfl rfl ?_
              refine Sq.assign .plain rfl rfl ?_
              refine Sq.nil ?_
              refine Eq.next ?_
              refine Cq.ret ?_
              refine Eq.pastRet ?_
              refine Eq.ret2 rfl rfl rfl ?_
              exact ⟨⟨_, _, rfl, by omega⟩, rfl⟩
            · refine Sq.move (.met rfl rfl rfl) rfl rfl ?_
              refine Sq.move (.met rfl rfl rfl) rfl rfl ?_
              refine Sq.pickF (.met rfl rfl rfl) rfl rfl rfl ?_
              refine Sq.pickT (.met rfl rfl rfl) rfl rfl rfl ?_
              refine Sq.pickF .plain rfl rfl rfl ?_
              refine Sq.nil ?_
              refine Eq.next ?_
              refine Cq.els rfl ?_
              refine Cq.skip ?_
              refine Eq.next ?_
              refine Cq.seq ?_
              refine Cq.region ?_
              refine Sq.assign .plain rfl rfl ?_
              refine Sq.nil ?_
              refine Eq.next ?_
              refine Cq.seq ?_
              refine Cq.seq ?_
              refine Cq.region ?_
              refine Sq.assign .plain rfl rfl ?_
              refine Sq.nil ?_
              refine Eq.next ?_
              refine Cq.block ?_
              refine Cq.loop (fun nn w ls => ∃ (k : Int), ∃ (n : Int), ls = [(0, Value.string s), (4, Value.bool false), (5, Value.int .i64 n), (6, Value.int .i64 k)] ∧ w0 = w ∧ (0 ≤ k ∧ k ≤ (s).size) ∧ ((s).size ≤ 17) ∧ (0 ≤ n ∧ n < 10 ^ k.toNat) ∧ nn = (((s).size : Int) - k).toNat) _ _ ⟨0, 0, rfl, rfl, by omega, by omega, by decide, rfl⟩ (.cons rfl (.cons rfl (.cons rfl (.cons rfl (.nil))))) ?_
              rintro n1 w ls ⟨k, n, rfl, rfl, hk, hz, hn, rfl⟩
              have hp := pow_small (k := k.toNat) (by omega)
              refine Cq.seq ?_
              refine Cq.seq ?_
              refine Cq.region ?_
              refine Sq.move .plain rfl rfl ?_
              refine Sq.move .plain rfl rfl ?_
              refine Sq.lenStr .plain rfl und9 rfl ?_
              refine Sq.lss .plain rfl rfl rfl ?_
              refine Sq.part (fun c20 => ?_) (fun c20 => ?_)
              · refine Sq.nil ?_
                refine Eq.next ?_
                refine Cq.thn rfl ?_
                refine Cq.skip ?_
                refine Eq.next ?_
                refine Cq.seq ?_
                refine Cq.block ?_
                refine Cq.seq ?_
                refine Cq.seq ?_
                refine Cq.region ?_
                refine Sq.move .plain rfl rfl ?_
                refine Sq.move .plain rfl rfl ?_
                refine Sq.idxStr .plain rfl und9 rfl rfl (by omega) (str_at (by omega)) ?_
                refine Sq.lss .plain rfl rfl rfl ?_
                refine Sq.part (fun c22 => ?_) (fun c22 => ?_)
                · refine Sq.move .plain rfl rfl ?_
                  refine Sq.off rfl rfl rfl rfl rfl rfl ?_
                  refine Sq.off rfl rfl rfl rfl rfl rfl ?_
                  refine Sq.off rfl rfl rfl rfl rfl rfl ?_
                  refine Sq.off rfl rfl rfl rfl rfl rfl ?_
                  refine Sq.pickT .plain rfl rfl rfl ?_
                  refine Sq.nil ?_
                  refine Eq.next ?_
                  refine Cq.thn rfl ?_
                  refine Cq.seq ?_
                  refine Cq.region ?_
                  refine Sq.assign .plain rfl rfl ?_
                  refine Sq.assign .plain rfl rfl ?_
                  refine Sq.nil ?_
                  refine Eq.next ?_
                  refine Cq.ret ?_
                  refine Eq.pastRet ?_
                  refine Eq.outRet ?_
                  refine Eq.pastRet ?_
                  refine Eq.pastRet ?_
                  refine Eq.outRet ?_
                  refine Eq.pastRet ?_
                  refine Eq.ret2 rfl rfl rfl ?_
                  exact ⟨⟨_, _, rfl, by omega⟩, rfl⟩
                · refine Sq.move .plain rfl rfl ?_
                  refine Sq.move (.met rfl rfl rfl) rfl rfl ?_
                  refine Sq.move (.met rfl rfl rfl) rfl rfl ?_
                  refine Sq.idxStr (.met rfl rfl rfl) rfl und9 rfl rfl (by omega) (str_at (by omega)) ?_
                  refine Sq.gtr (.met rfl rfl rfl) rfl rfl rfl ?_
                  refine Sq.part (fun c24 => ?_) (fun c24 => ?_)
                  · refine Sq.pickF .plain rfl rfl rfl ?_
                    refine Sq.nil ?_
                    refine Eq.next ?_
                    refine Cq.thn rfl ?_
                    refine Cq.seq ?_
                    refine Cq.region ?_
                    refine Sq.assign .plain rfl rfl ?_
                    refine Sq.assign .plain rfl rfl ?_
                    refine Sq.nil ?_
                    refine Eq.next ?_
                    refine Cq.ret ?_
                    refine Eq.pastRet ?_
                    refine Eq.outRet ?_
                    refine Eq.pastRet ?_
                    refine Eq.pastRet ?_
                    refine Eq.outRet ?_
                    refine Eq.pastRet ?_
                    refine Eq.ret2 rfl rfl rfl ?_
                    exact ⟨⟨_, _, rfl, by omega⟩, rfl⟩
                  · refine Sq.pickF .plain rfl rfl rfl ?_
                    refine Sq.nil ?_
                    refine Eq.next ?_
                    refine Cq.els rfl ?_
                    refine Cq.skip ?_
                    refine Eq.next ?_
                    refine Cq.region ?_
                    refine Sq.move .plain rfl rfl ?_
                    refine Sq.mul .plain rfl rfl rfl (by omega) ?_
                    refine Sq.move .plain rfl rfl ?_
                    refine Sq.move .plain rfl rfl ?_
                    refine Sq.idxStr .plain rfl und9 rfl rfl (by omega) (str_at (by omega)) ?_
                    refine Sq.sub8 .plain rfl rfl rfl (by omega) ?_
                    refine Sq.conv conv5_3 .plain rfl rfl (by omega) ?_
                    refine Sq.add .plain rfl rfl rfl (by omega) ?_
                    refine Sq.assign .plain rfl rfl ?_
                    refine Sq.nil ?_
                    refine Eq.end ?_
                    refine Eq.next ?_
                    refine Cq.region ?_
                    refine Sq.move .plain rfl rfl ?_
                    refine Sq.add .plain rfl rfl rfl (by omega) ?_
                    refine Sq.assign .plain rfl rfl ?_
                    refine Sq.nil ?_
                    have e1 := toNat_succ hk.1
                    refine Eq.round _ _ ⟨k + 1, _, rfl, rfl, by omega, hz, by rw [e1]; exact pow_step hn (by omega), rfl⟩ (by omega) (.cons rfl (.cons rfl (.cons rfl (.cons rfl (.nil)))))
              · refine Sq.nil ?_
                refine Eq.next ?_
                refine Cq.els rfl ?_
                refine Cq.exit ?_
                refine Eq.past ?_
                refine Eq.past ?_
                refine Eq.hit ?_
                refine Eq.next ?_
                refine Cq.seq ?_
                refine Cq.seq ?_
                refine Cq.region ?_
                refine Sq.move .plain rfl rfl ?_
                refine Sq.nil ?_
                refine Eq.next ?_
                refine Cq.els rfl ?_
                refine Cq.skip ?_
                refine Eq.next ?_
                refine Cq.seq ?_
                refine Cq.region ?_
                refine Sq.move .plain rfl rfl ?_
                refine Sq.assign .plain rfl rfl ?_
                refine Sq.assign .plain rfl rfl ?_
                refine Sq.nil ?_
                refine Eq.next ?_
                refine Cq.ret ?_
                refine Eq.ret2 rfl rfl rfl ?_
                exact ⟨⟨_, _, rfl, by omega⟩, rfl⟩
          · refine Sq.move (.met rfl rfl rfl) rfl rfl ?_
            refine Sq.off rfl rfl rfl rfl rfl rfl ?_
            refine Sq.off rfl rfl rfl rfl rfl rfl ?_
            refine Sq.off rfl rfl rfl rfl rfl rfl ?_
            refine Sq.off rfl rfl rfl rfl rfl rfl ?_
            refine Sq.offU rfl rfl rfl rfl rfl rfl ?_
            refine Sq.off rfl rfl rfl rfl rfl rfl ?_
            refine Sq.pickF (.met rfl rfl rfl) rfl rfl rfl ?_
            refine Sq.pickF .plain rfl rfl rfl ?_
            refine Sq.nil ?_
            refine Eq.next ?_
            refine Cq.els rfl ?_
            refine Cq.skip ?_
            refine Eq.next ?_
            refine Cq.seq ?_
            refine Cq.region ?_
            refine Sq.assign .plain rfl rfl ?_
            refine Sq.nil ?_
            refine Eq.next ?_
            refine Cq.seq ?_
            refine Cq.seq ?_
            refine Cq.region ?_
            refine Sq.assign .plain rfl rfl ?_
            refine Sq.nil ?_
            refine Eq.next ?_
            refine Cq.block ?_
            refine Cq.loop (fun nn w ls => ∃ (k : Int), ∃ (n : Int), ls = [(0, Value.string s), (4, Value.bool false), (5, Value.int .i64 n), (6, Value.int .i64 k)] ∧ w0 = w ∧ (0 ≤ k ∧ k ≤ (s).size) ∧ ((s).size ≤ 17) ∧ (0 ≤ n ∧ n < 10 ^ k.toNat) ∧ nn = (((s).size : Int) - k).toNat) _ _ ⟨0, 0, rfl, rfl, by omega, by omega, by decide, rfl⟩ (.cons rfl (.cons rfl (.cons rfl (.cons rfl (.nil))))) ?_
            rintro n1 w ls ⟨k, n, rfl, rfl, hk, hz, hn, rfl⟩
            have hp := pow_small (k := k.toNat) (by omega)
            refine Cq.seq ?_
            refine Cq.seq ?_
            refine Cq.region ?_
            refine Sq.move .plain rfl rfl ?_
            refine Sq.move .plain rfl rfl ?_
            refine Sq.lenStr .plain rfl und9 rfl ?_
            refine Sq.lss .plain rfl rfl rfl ?_
            refine Sq.part (fun c26 => ?_) (fun c26 => ?_)
            · refine Sq.nil ?_
              refine Eq.next ?_
              refine Cq.thn rfl ?_
              refine Cq.skip ?_
              refine Eq.next ?_
              refine Cq.seq ?_
              refine Cq.block ?_
              refine Cq.seq ?_
              refine Cq.seq ?_
              refine Cq.region ?_
              refine Sq.move .plain rfl rfl ?_
              refine Sq.move .plain rfl rfl ?_
              refine Sq.idxStr .plain rfl und9 rfl rfl (by omega) (str_at (by omega)) ?_
              refine Sq.lss .plain rfl rfl rfl ?_
              refine Sq.part (fun c28 => ?_) (fun c28 => ?_)
              · refine Sq.move .plain rfl rfl ?_
                refine Sq.off rfl rfl rfl rfl rfl rfl ?_
                refine Sq.off rfl rfl rfl rfl rfl rfl ?_
                refine Sq.off rfl rfl rfl rfl rfl rfl ?_
                refine Sq.off rfl rfl rfl rfl rfl rfl ?_
                refine Sq.pickT .plain rfl rfl rfl ?_
                refine Sq.nil ?_
                refine Eq.next ?_
                refine Cq.thn rfl ?_
                refine Cq.seq ?_
                refine Cq.region ?_
                refine Sq.assign .plain rfl rfl ?_
                refine Sq.assign .plain rfl rfl ?_
                refine Sq.nil ?_
                refine Eq.next ?_
                refine Cq.ret ?_
                refine Eq.pastRet ?_
                refine Eq.outRet ?_
                refine Eq.pastRet ?_
                refine Eq.pastRet ?_
                refine Eq.outRet ?_
                refine Eq.pastRet ?_
                refine Eq.ret2 rfl rfl rfl ?_
                exact ⟨⟨_, _, rfl, by omega⟩, rfl⟩
              · refine Sq.move .plain rfl rfl ?_
                refine Sq.move (.met rfl rfl rfl) rfl rfl ?_
                refine Sq.move (.met rfl rfl rfl) rfl rfl ?_
                refine Sq.idxStr (.met rfl rfl rfl) rfl und9 rfl rfl (by omega) (str_at (by omega)) ?_
                refine Sq.gtr (.met rfl rfl rfl) rfl rfl rfl ?_
                refine Sq.part (fun c30 => ?_) (fun c30 => ?_)
                · refine Sq.pickF .plain rfl rfl rfl ?_
                  refine Sq.nil ?_
                  refine Eq.next ?_
                  refine Cq.thn rfl ?_
                  refine Cq.seq ?_
                  refine Cq.region ?_
                  refine Sq.assign .plain rfl rfl ?_
                  refine Sq.assign .plain rfl rfl ?_
                  refine Sq.nil ?_
                  refine Eq.next ?_
                  refine Cq.ret ?_
                  refine Eq.pastRet ?_
                  refine Eq.outRet ?_
                  refine Eq.pastRet ?_
                  refine Eq.pastRet ?_
                  refine Eq.outRet ?_
                  refine Eq.pastRet ?_
                  refine Eq.ret2 rfl rfl rfl ?_
                  exact ⟨⟨_, _, rfl, by omega⟩, rfl⟩
                · refine Sq.pickF .plain rfl rfl rfl ?_
                  refine Sq.nil ?_
                  refine Eq.next ?_
                  refine Cq.els rfl ?_
                  refine Cq.skip ?_
                  refine Eq.next ?_
                  refine Cq.region ?_
                  refine Sq.move .plain rfl rfl ?_
                  refine Sq.mul .plain rfl rfl rfl (by omega) ?_
                  refine Sq.move .plain rfl rfl ?_
                  refine Sq.move .plain rfl rfl ?_
                  refine Sq.idxStr .plain rfl und9 rfl rfl (by omega) (str_at (by omega)) ?_
                  refine Sq.sub8 .plain rfl rfl rfl (by omega) ?_
                  refine Sq.conv conv5_3 .plain rfl rfl (by omega) ?_
                  refine Sq.add .plain rfl rfl rfl (by omega) ?_
                  refine Sq.assign .plain rfl rfl ?_
                  refine Sq.nil ?_
                  refine Eq.end ?_
                  refine Eq.next ?_
                  refine Cq.region ?_
                  refine Sq.move .plain rfl rfl ?_
                  refine Sq.add .plain rfl rfl rfl (by omega) ?_
                  refine Sq.assign .plain rfl rfl ?_
                  refine Sq.nil ?_
                  have e1 := toNat_succ hk.1
                  refine Eq.round _ _ ⟨k + 1, _, rfl, rfl, by omega, hz, by rw [e1]; exact pow_step hn (by omega), rfl⟩ (by omega) (.cons rfl (.cons rfl (.cons rfl (.cons rfl (.nil)))))
            · refine Sq.nil ?_
              refine Eq.next ?_
              refine Cq.els rfl ?_
              refine Cq.exit ?_
              refine Eq.past ?_
              refine Eq.past ?_
              refine Eq.hit ?_
              refine Eq.next ?_
              refine Cq.seq ?_
              refine Cq.seq ?_
              refine Cq.region ?_
              refine Sq.move .plain rfl rfl ?_
              refine Sq.nil ?_
              refine Eq.next ?_
              refine Cq.els rfl ?_
              refine Cq.skip ?_
              refine Eq.next ?_
              refine Cq.seq ?_
              refine Cq.region ?_
              refine Sq.move .plain rfl rfl ?_
              refine Sq.assign .plain rfl rfl ?_
              refine Sq.assign .plain rfl rfl ?_
              refine Sq.nil ?_
              refine Eq.next ?_
              refine Cq.ret ?_
              refine Eq.ret2 rfl rfl rfl ?_
              exact ⟨⟨_, _, rfl, by omega⟩, rfl⟩
  · refine Sq.move .plain rfl rfl ?_
    refine Sq.off rfl rfl rfl rfl rfl rfl ?_
    refine Sq.off rfl rfl rfl rfl rfl rfl ?_
    refine Sq.off rfl rfl rfl rfl rfl rfl ?_
    refine Sq.pickF .plain rfl rfl rfl ?_
    refine Sq.assign .plain rfl rfl ?_
    refine Sq.nil ?_
    refine Eq.next ?_
    refine Cq.seq ?_
    refine Cq.seq ?_
    refine Cq.region ?_
    refine Sq.move .plain rfl rfl ?_
    refine Sq.nil ?_
    refine Eq.next ?_
    refine Cq.els rfl ?_
    refine Cq.skip ?_
    refine Eq.next ?_
    refine Cq.seq ?_
    refine Cq.seq ?_
    refine Cq.region ?_
    refine Sq.move .plain rfl rfl ?_
    refine Sq.lenStr .plain rfl und9 rfl ?_
    refine Sq.eql .plain rfl rfl rfl ?_
    refine Sq.part (fun c32 => ?_) (fun c32 => ?_)
    · refine Sq.move .plain rfl rfl ?_
      refine Sq.off rfl rfl rfl rfl rfl rfl ?_
      refine Sq.off rfl rfl rfl rfl rfl rfl ?_
      refine Sq.off rfl rfl rfl rfl rfl rfl ?_
      refine Sq.pickT .plain rfl rfl rfl ?_
      refine Sq.move .plain rfl rfl ?_
      refine Sq.off rfl rfl rfl rfl rfl rfl ?_
      refine Sq.off rfl rfl rfl rfl rfl rfl ?_
      refine Sq.off rfl rfl rfl rfl rfl rfl ?_
      refine Sq.off rfl rfl rfl rfl rfl rfl ?_
      refine Sq.offU rfl rfl rfl rfl rfl rfl ?_
      refine Sq.offU rfl rfl rfl rfl rfl rfl ?_
      refine Sq.offU rfl rfl rfl rfl rfl rfl ?_
      refine Sq.offU rfl rfl rfl rfl rfl rfl ?_
      refine Sq.offU rfl rfl rfl rfl rfl rfl ?_
      refine Sq.offU rfl rfl rfl rfl rfl rfl ?_
      refine Sq.off rfl rfl rfl rfl rfl rfl ?_
      refine Sq.pickT .plain rfl rfl rfl ?_
      refine Sq.nil ?_
      refine Eq.next ?_
      refine Cq.thn rfl ?_
      refine Cq.seq ?_
      refine Cq.region ?_
      refine Sq.assign .plain rfl rfl ?_
      refine Sq.assign .plain rfl rfl ?_
      refine Sq.nil ?_
      refine Eq.next ?_
      refine Cq.ret ?_
      refine Eq.pastRet ?_
      refine Eq.ret2 rfl rfl rfl ?_
      exact ⟨⟨_, _, rfl, by omega⟩, rfl⟩
    · refine Sq.move .plain rfl rfl ?_
      refine Sq.move (.met rfl rfl rfl) rfl rfl ?_
      refine Sq.lenStr (.met rfl rfl rfl) rfl und9 rfl ?_
      refine Sq.gtr (.met rfl rfl rfl) rfl rfl rfl ?_
      refine Sq.part (fun c33 => ?_) (fun c33 => ?_)
      · refine Sq.pickF .plain rfl rfl rfl ?_
        refine Sq.move .plain rfl rfl ?_
        refine Sq.off rfl rfl rfl rfl rfl rfl ?_
        refine Sq.off rfl rfl rfl rfl rfl rfl ?_
        refine Sq.off rfl rfl rfl rfl rfl rfl ?_
        refine Sq.off rfl rfl rfl rfl rfl rfl ?_
        refine Sq.offU rfl rfl rfl rfl rfl rfl ?_
        refine Sq.offU rfl rfl rfl rfl rfl rfl ?_
        refine Sq.offU rfl rfl rfl rfl rfl rfl ?_
        refine Sq.offU rfl rfl rfl rfl rfl rfl ?_
        refine Sq.offU rfl rfl rfl rfl rfl rfl ?_
        refine Sq.offU rfl rfl rfl rfl rfl rfl ?_
        refine Sq.off rfl rfl rfl rfl rfl rfl ?_
        refine Sq.pickT .plain rfl rfl rfl ?_
        refine Sq.nil ?_
        refine Eq.next ?_
        refine Cq.thn rfl ?_
        refine Cq.seq ?_
        refine Cq.region ?_
        refine Sq.assign .plain rfl rfl ?_
        refine Sq.assign .plain rfl rfl ?_
        refine Sq.nil ?_
        refine Eq.next ?_
        refine Cq.ret ?_
        refine Eq.pastRet ?_
        refine Eq.ret2 rfl rfl rfl ?_
        exact ⟨⟨_, _, rfl, by omega⟩, rfl⟩
      · refine Sq.pickF .plain rfl rfl rfl ?_
        refine Sq.move .plain rfl rfl ?_
        refine Sq.move (.met rfl rfl rfl) rfl rfl ?_
        refine Sq.idxStr (.met rfl rfl rfl) rfl und9 rfl rfl (by omega) (str_at (by omega)) ?_
        refine Sq.eql (.met rfl rfl rfl) rfl rfl rfl ?_
        refine Sq.part (fun c35 => ?_) (fun c35 => ?_)
        · refine Sq.move (.met rfl rfl rfl) rfl rfl ?_
          refine Sq.move (.met rfl rfl rfl) rfl rfl ?_
          refine Sq.lenStr (.met rfl rfl rfl) rfl und9 rfl ?_
          refine Sq.gtr (.met rfl rfl rfl) rfl rfl rfl ?_
          refine Sq.part (fun c36 => ?_) (fun c36 => ?_)
          · refine Sq.move (.met rfl rfl rfl) rfl rfl ?_
            refine Sq.off rfl rfl rfl rfl rfl rfl ?_
            refine Sq.pickT (.met rfl rfl rfl) rfl rfl rfl ?_
            refine Sq.pickT (.met rfl rfl rfl) rfl rfl rfl ?_
            refine Sq.pickF .plain rfl rfl rfl ?_
            refine Sq.nil ?_
            refine Eq.next ?_
            refine Cq.thn rfl ?_
            refine Cq.seq ?_
            refine Cq.region ?_
            refine Sq.assign .plain rfl rfl ?_
            refine Sq.assign .plain rfl rfl ?_
            refine Sq.nil ?_
            refine Eq.next ?_
            refine Cq.ret ?_
            refine Eq.pastRet ?_
            refine Eq.ret2 rfl rfl rfl ?_
            exact ⟨⟨_, _, rfl, by omega⟩, rfl⟩
          · refine Sq.move (.met rfl rfl rfl) rfl rfl ?_
            refine Sq.move (.met rfl rfl rfl) rfl rfl ?_
            refine Sq.pickF (.met rfl rfl rfl) rfl rfl rfl ?_
            refine Sq.pickT (.met rfl rfl rfl) rfl rfl rfl ?_
            refine Sq.pickF .plain rfl rfl rfl ?_
            refine Sq.nil ?_
            refine Eq.next ?_
            refine Cq.els rfl ?_
            refine Cq.skip ?_
            refine Eq.next ?_
            refine Cq.seq ?_
            refine Cq.region ?_
            refine Sq.assign .plain rfl rfl ?_
            refine Sq.nil ?_
            refine Eq.next ?_
            refine Cq.seq ?_
            refine Cq.seq ?_
            refine Cq.region ?_
            refine Sq.assign .plain rfl rfl ?_
            refine Sq.nil ?_
            refine Eq.next ?_
            refine Cq.block ?_
            refine Cq.loop (fun nn w ls => ∃ (k : Int), ∃ (n : Int), ls = [(0, Value.string s), (4, Value.bool false), (5, Value.int .i64 n), (6, Value.int .i64 k)] ∧ w0 = w ∧ (0 ≤ k ∧ k ≤ (s).size) ∧ ((s).size ≤ 17) ∧ (0 ≤ n ∧ n < 10 ^ k.toNat) ∧ nn = (((s).size : Int) - k).toNat) _ _ ⟨0, 0, rfl, rfl, by omega, by omega, by decide, rfl⟩ (.cons rfl (.cons rfl (.cons rfl (.cons rfl (.nil))))) ?_
            rintro n1 w ls ⟨k, n, rfl, rfl, hk, hz, hn, rfl⟩
            have hp := pow_small (k := k.toNat) (by omega)
            refine Cq.seq ?_
            refine Cq.seq ?_
            refine Cq.region ?_
            refine Sq.move .plain rfl rfl ?_
            refine Sq.move .plain rfl rfl ?_
            refine Sq.lenStr .plain rfl und9 rfl ?_
            refine Sq.lss .plain rfl rfl rfl ?_
            refine Sq.part (fun c37 => ?_) (fun c37 => ?_)
            · refine Sq.nil ?_
              refine Eq.next ?_
              refine Cq.thn rfl ?_
              refine Cq.skip ?_
              refine Eq.next ?_
              refine Cq.seq ?_
              refine Cq.block ?_
              refine Cq.seq ?_
              refine Cq.seq ?_
              refine Cq.region ?_
              refine Sq.move .plain rfl rfl ?_
              refine Sq.move .plain rfl rfl ?_
              refine Sq.idxStr .plain rfl und9 rfl rfl (by omega) (str_at (by omega)) ?_
              refine Sq.lss .plain rfl rfl rfl ?_
              refine Sq.part (fun c39 => ?_) (fun c39 => ?_)
              · refine Sq.move .plain rfl rfl ?_
                refine Sq.off rfl rfl rfl rfl rfl rfl ?_
                refine Sq.off rfl rfl rfl rfl rfl rfl ?_
                refine Sq.off rfl rfl rfl rfl rfl rfl ?_
                refine Sq.off rfl rfl rfl rfl rfl rfl ?_
                refine Sq.pickT .plain rfl rfl rfl ?_
                refine Sq.nil ?_
                refine Eq.next ?_
                refine Cq.thn rfl ?_
                refine Cq.seq ?_
                refine Cq.region ?_
                refine Sq.assign .plain rfl rfl ?_
                refine Sq.assign .plain rfl rfl ?_
                refine Sq.nil ?_
                refine Eq.next ?_
                refine Cq.ret ?_
                refine Eq.pastRet ?_
                refine Eq.outRet ?_
                refine Eq.pastRet ?_
                refine Eq.pastRet ?_
                refine Eq.outRet ?_
                refine Eq.pastRet ?_
                refine Eq.ret2 rfl rfl rfl ?_
                exact ⟨⟨_, _, rfl, by omega⟩, rfl⟩
              · refine Sq.move .plain rfl rfl ?_
                refine Sq.move (.met rfl rfl rfl) rfl rfl ?_
                refine Sq.move (.met rfl rfl rfl) rfl rfl ?_
                refine Sq.idxStr (.met rfl rfl rfl) rfl und9 rfl rfl (by omega) (str_at (by omega)) ?_
                refine Sq.gtr (.met rfl rfl rfl) rfl rfl rfl ?_
                refine Sq.part (fun c41 => ?_) (fun c41 => ?_)
                · refine Sq.pickF .plain rfl rfl rfl ?_
                  refine Sq.nil ?_
                  refine Eq.next ?_
                  refine Cq.thn rfl ?_
                  refine Cq.seq ?_
                  refine Cq.region ?_
                  refine Sq.assign .plain rfl rfl ?_
                  refine Sq.assign .plain rfl rfl ?_
                  refine Sq.nil ?_
                  refine Eq.next ?_
                  refine Cq.ret ?_
                  refine Eq.pastRet ?_
                  refine Eq.outRet ?_
                  refine Eq.pastRet ?_
                  refine Eq.pastRet ?_
                  refine Eq.outRet ?_
                  refine Eq.pastRet ?_
                  refine Eq.ret2 rfl rfl rfl ?_
                  exact ⟨⟨_, _, rfl, by omega⟩, rfl⟩
                · refine Sq.pickF .plain rfl rfl rfl ?_
                  refine Sq.nil ?_
                  refine Eq.next ?_
                  refine Cq.els rfl ?_
                  refine Cq.skip ?_
                  refine Eq.next ?_
                  refine Cq.region ?_
                  refine Sq.move .plain rfl rfl ?_
                  refine Sq.mul .plain rfl rfl rfl (by omega) ?_
                  refine Sq.move .plain rfl rfl ?_
                  refine Sq.move .plain rfl rfl ?_
                  refine Sq.idxStr .plain rfl und9 rfl rfl (by omega) (str_at (by omega)) ?_
                  refine Sq.sub8 .plain rfl rfl rfl (by omega) ?_
                  refine Sq.conv conv5_3 .plain rfl rfl (by omega) ?_
                  refine Sq.add .plain rfl rfl rfl (by omega) ?_
                  refine Sq.assign .plain rfl rfl ?_
                  refine Sq.nil ?_
                  refine Eq.end ?_
                  refine Eq.next ?_
                  refine Cq.region ?_
                  refine Sq.move .plain rfl rfl ?_
                  refine Sq.add .plain rfl rfl rfl (by omega) ?_
                  refine Sq.assign .plain rfl rfl ?_
                  refine Sq.nil ?_
                  have e1 := toNat_succ hk.1
                  refine Eq.round _ _ ⟨k + 1, _, rfl, rfl, by omega, hz, by rw [e1]; exact pow_step hn (by omega), rfl⟩ (by omega) (.cons rfl (.cons rfl (.cons rfl (.cons rfl (.nil)))))
            · refine Sq.nil ?_
              refine Eq.next ?_
              refine Cq.els rfl ?_
              refine Cq.exit ?_
              refine Eq.past ?_
              refine Eq.past ?_
              refine Eq.hit ?_
              refine Eq.next ?_
              refine Cq.seq ?_
              refine Cq.seq ?_
              refine Cq.region ?_
              refine Sq.move .plain rfl rfl ?_
              refine Sq.nil ?_
              refine Eq.next ?_
              refine Cq.els rfl ?_
              refine Cq.skip ?_
              refine Eq.next ?_
              refine Cq.seq ?_
              refine Cq.region ?_
              refine Sq.move .plain rfl rfl ?_
              refine Sq.assign .plain rfl rfl ?_
              refine Sq.assign .plain rfl rfl ?_
              refine Sq.nil ?_
              refine Eq.next ?_
              refine Cq.ret ?_
              refine Eq.ret2 rfl rfl rfl ?_
              exact ⟨⟨_, _, rfl, by omega⟩, rfl⟩
        · refine Sq.move (.met rfl rfl rfl) rfl rfl ?_
          refine Sq.off rfl rfl rfl rfl rfl rfl ?_
          refine Sq.off rfl rfl rfl rfl rfl rfl ?_
          refine Sq.off rfl rfl rfl rfl rfl rfl ?_
          refine Sq.off rfl rfl rfl rfl rfl rfl ?_
          refine Sq.offU rfl rfl rfl rfl rfl rfl ?_
          refine Sq.off rfl rfl rfl rfl rfl rfl ?_
          refine Sq.pickF (.met rfl rfl rfl) rfl rfl rfl ?_
          refine Sq.pickF .plain rfl rfl rfl ?_
          refine Sq.nil ?_
          refine Eq.next ?_
          refine Cq.els rfl ?_
          refine Cq.skip ?_
          refine Eq.next ?_
          refine Cq.seq ?_
          refine Cq.region ?_
          refine Sq.assign .plain rfl rfl ?_
          refine Sq.nil ?_
          refine Eq.next ?_
          refine Cq.seq ?_
          refine Cq.seq ?_
          refine Cq.region ?_
          refine Sq.assign .plain rfl rfl ?_
          refine Sq.nil ?_
          refine Eq.next ?_
          refine Cq.block ?_
          refine Cq.loop (fun nn w ls => ∃ (k : Int), ∃ (n : Int), ls = [(0, Value.string s), (4, Value.bool false), (5, Value.int .i64 n), (6, Value.int .i64 k)] ∧ w0 = w ∧ (0 ≤ k ∧ k ≤ (s).size) ∧ ((s).size ≤ 17) ∧ (0 ≤ n ∧ n < 10 ^ k.toNat) ∧ nn = (((s).size : Int) - k).toNat) _ _ ⟨0, 0, rfl, rfl, by omega, by omega, by decide, rfl⟩ (.cons rfl (.cons rfl (.cons rfl (.cons rfl (.nil))))) ?_
          rintro n1 w ls ⟨k, n, rfl, rfl, hk, hz, hn, rfl⟩
          have hp := pow_small (k := k.toNat) (by omega)
          refine Cq.seq ?_
          refine Cq.seq ?_
          refine Cq.region ?_
          refine Sq.move .plain rfl rfl ?_
          refine Sq.move .plain rfl rfl ?_
          refine Sq.lenStr .plain rfl und9 rfl ?_
          refine Sq.lss .plain rfl rfl rfl ?_
          refine Sq.part (fun c43 => ?_) (fun c43 => ?_)
          · refine Sq.nil ?_
            refine Eq.next ?_
            refine Cq.thn rfl ?_
            refine Cq.skip ?_
            refine Eq.next ?_
            refine Cq.seq ?_
            refine Cq.block ?_
            refine Cq.seq ?_
            refine Cq.seq ?_
            refine Cq.region ?_
            refine Sq.move .plain rfl rfl ?_
            refine Sq.move .plain rfl rfl ?_
            refine Sq.idxStr .plain rfl und9 rfl rfl (by omega) (str_at (by omega)) ?_
            refine Sq.lss .plain rfl rfl rfl ?_
            refine Sq.part (fun c45 => ?_) (fun c45 => ?_)
            · refine Sq.move .plain rfl rfl ?_
              refine Sq.off rfl rfl rfl rfl rfl rfl ?_
              refine Sq.off rfl rfl rfl rfl rfl rfl ?_
              refine Sq.off rfl rfl rfl rfl rfl rfl ?_
              refine Sq.off rfl rfl rfl rfl rfl rfl ?_
              refine Sq.pickT .plain rfl rfl rfl ?_
              refine Sq.nil ?_
              refine Eq.next ?_
              refine Cq.thn rfl ?_
              refine Cq.seq ?_
              refine Cq.region ?_
              refine Sq.assign .plain rfl rfl ?_
              refine Sq.assign .plain rfl rfl ?_
              refine Sq.nil ?_
              refine Eq.next ?_
              refine Cq.ret ?_
              refine Eq.pastRet ?_
              refine Eq.outRet ?_
              refine Eq.pastRet ?_
              refine Eq.pastRet ?_
              refine Eq.outRet ?_
              refine Eq.pastRet ?_
              refine Eq.ret2 rfl rfl rfl ?_
              exact ⟨⟨_, _, rfl, by omega⟩, rfl⟩
            · refine Sq.move .plain rfl rfl ?_
              refine Sq.move (.met rfl rfl rfl) rfl rfl ?_
              refine Sq.move (.met rfl rfl rfl) rfl rfl ?_
              refine Sq.idxStr (.met rfl rfl rfl) rfl und9 rfl rfl (by omega) (str_at (by omega)) ?_
              refine Sq.gtr (.met rfl rfl rfl) rfl rfl rfl ?_
              refine Sq.part (fun c47 => ?_) (fun c47 => ?_)
              · refine Sq.pickF .plain rfl rfl rfl ?_
                refine Sq.nil ?_
                refine Eq.next ?_
                refine Cq.thn rfl ?_
                refine Cq.seq ?_
                refine Cq.region ?_
                refine Sq.assign .plain rfl rfl ?_
                refine Sq.assign .plain rfl rfl ?_
                refine Sq.nil ?_
                refine Eq.next ?_
                refine Cq.ret ?_
                refine Eq.pastRet ?_
                refine Eq.outRet ?_
                refine Eq.pastRet ?_
                refine Eq.pastRet ?_
                refine Eq.outRet ?_
                refine Eq.pastRet ?_
                refine Eq.ret2 rfl rfl rfl ?_
                exact ⟨⟨_, _, rfl, by omega⟩, rfl⟩
              · refine Sq.pickF .plain rfl rfl rfl ?_
                refine Sq.nil ?_
                refine Eq.next ?_
                refine Cq.els rfl ?_
                refine Cq.skip ?_
                refine Eq.next ?_
                refine Cq.region ?_
                refine Sq.move .plain rfl rfl ?_
                refine Sq.mul .plain rfl rfl rfl (by omega) ?_
                refine Sq.move .plain rfl rfl ?_
                refine Sq.move .plain rfl rfl ?_
                refine Sq.idxStr .plain rfl und9 rfl rfl (by omega) (str_at (by omega)) ?_
                refine Sq.sub8 .plain rfl rfl rfl (by omega) ?_
                refine Sq.conv conv5_3 .plain rfl rfl (by omega) ?_
                refine Sq.add .plain rfl rfl rfl (by omega) ?_
                refine Sq.assign .plain rfl rfl ?_
                refine Sq.nil ?_
                refine Eq.end ?_
                refine Eq.next ?_
                refine Cq.region ?_
                refine Sq.move .plain rfl rfl ?_
                refine Sq.add .plain rfl rfl rfl (by omega) ?_
                refine Sq.assign .plain rfl rfl ?_
                refine Sq.nil ?_
                have e1 := toNat_succ hk.1
                refine Eq.round _ _ ⟨k + 1, _, rfl, rfl, by omega, hz, by rw [e1]; exact pow_step hn (by omega), rfl⟩ (by omega) (.cons rfl (.cons rfl (.cons rfl (.cons rfl (.nil)))))
          · refine Sq.nil ?_
            refine Eq.next ?_
            refine Cq.els rfl ?_
            refine Cq.exit ?_
            refine Eq.past ?_
            refine Eq.past ?_
            refine Eq.hit ?_
            refine Eq.next ?_
            refine Cq.seq ?_
            refine Cq.seq ?_
            refine Cq.region ?_
            refine Sq.move .plain rfl rfl ?_
            refine Sq.nil ?_
            refine Eq.next ?_
            refine Cq.els rfl ?_
            refine Cq.skip ?_
            refine Eq.next ?_
            refine Cq.seq ?_
            refine Cq.region ?_
            refine Sq.move .plain rfl rfl ?_
            refine Sq.assign .plain rfl rfl ?_
            refine Sq.assign .plain rfl rfl ?_
            refine Sq.nil ?_
            refine Eq.next ?_
            refine Cq.ret ?_
            refine Eq.ret2 rfl rfl rfl ?_
            exact ⟨⟨_, _, rfl, by omega⟩, rfl⟩

set_option maxRecDepth 100000 in
theorem l3Parse_c (s : ByteArray) (hs : s.size ≤ 100000) (w0 : World) : Ret Try.prog 112 #[Value.string s] w0 (fun v w => (∃ (r : Value) (ok : Bool) (xs : List Int), v = .tuple #[r, .bool ok] ∧ Own w w0.heap.size 3 r (xs.map (Value.int .i64)) ∧ xs.length ≤ s.size + 1) ∧ Ext w0 w) := by
  have E := Ext.refl w0
  refine Ret.of (args := [Value.string s]) Try.func112 rfl rfl rfl ?_
  rintro _ rfl
  show Cq _ _ _ _ [(0, Value.string s)] _
  refine Cq.seq ?_
  refine Cq.region ?_
  refine Sq.assign .plain rfl rfl ?_
  refine Sq.assign .plain rfl rfl ?_
  refine Sq.nil ?_
  refine Eq.next ?_
  refine Cq.seq ?_
  refine Cq.region ?_
  refine Sq.lit sl56 rfl rfl .plain rfl rfl one_nil (fun b1 w2 e3 hlo4 ho5 _ => ?_)
  replace ho5 := ho5 w0.heap.size (Nat.le_refl _)
  have hs7 := Below.size e3
  replace E := E.trans e3
  refine Sq.assign .plain rfl rfl ?_
  refine Sq.nil ?_
  refine Eq.next ?_
  refine Cq.seq ?_
  refine Cq.seq ?_
  refine Cq.region ?_
  refine Sq.move .plain rfl rfl ?_
  refine Sq.eqlS .plain rfl rfl rfl ?_
  refine Sq.part (fun c8 => ?_) (fun c8 => ?_)
  · refine Sq.nil ?_
    refine Eq.next ?_
    refine Cq.thn rfl ?_
    refine Cq.seq ?_
    refine Cq.region ?_
    refine Sq.move .plain rfl rfl ?_
    refine Sq.assign .plain rfl rfl ?_
    refine Sq.assign .plain rfl rfl ?_
    refine Sq.nil ?_
    refine Eq.next ?_
    refine Cq.ret ?_
    refine Eq.pastRet ?_
    refine Eq.ret2 rfl rfl rfl ?_
    exact ⟨⟨_, _, [], rfl, Own.mono ho5 (by omega), by simp⟩, E⟩
  · refine Sq.nil ?_
    refine Eq.next ?_
    refine Cq.els rfl ?_
    refine Cq.skip ?_
    refine Eq.next ?_
    refine Cq.seq ?_
    refine Cq.region ?_
    refine Sq.move .plain rfl rfl ?_
    refine Sq.call fn110 .plain rfl rfl (cut_c s 44 (by omega) _) ?_
    rintro v9 w10 ⟨⟨xs12, ho13, hxl14, hxs15⟩, e11⟩
    have hs16 := Below.size E
    have hs17 := Below.size e11
    replace E := E.trans e11
    replace ho5 := ho5.ext e11
    refine Sq.assign .plain rfl rfl ?_
    refine Sq.nil ?_
    refine Eq.next ?_
    refine Cq.seq ?_
    refine Cq.seq ?_
    refine Cq.region ?_
    refine Sq.assign .plain rfl rfl ?_
    refine Sq.nil ?_
    refine Eq.next ?_
    refine Cq.block ?_
    refine Cq.loop (fun nn w ls => ∃ (k : Int), ∃ (v : Value), ∃ (ys : List Int), ls = [(0, Value.string s), (4, v), (5, v9), (6, Value.int .i64 k)] ∧ (0 ≤ k ∧ k ≤ xs12.length) ∧ Own w w0.heap.size 3 v (ys.map (Value.int .i64)) ∧ ((ys.length : Int) = k) ∧ Ext w0 w ∧ Own w w2.heap.size 9 v9 (xs12.map Value.string) ∧ nn = ((xs12.length : Int) - k).toNat) _ _ ⟨0, _, [], rfl, by omega, Own.mono ho5 (by omega), rfl, E, ho13, rfl⟩ (.cons rfl (.cons rfl (.cons rfl (.cons rfl (.nil))))) ?_
    rintro nn wl1 ls ⟨k, v, ys, rfl, hk, ho, hl, E, ho13, rfl⟩
    have hs18 := Below.size E
    refine Cq.seq ?_
    refine Cq.seq ?_
    refine Cq.region ?_
    refine Sq.move .plain rfl rfl ?_
    refine Sq.move .plain rfl rfl ?_
    refine Sq.lenStrs (Own.row ho13) .plain rfl und91 rfl ?_
    refine Sq.lss .plain rfl rfl rfl ?_
    refine Sq.part (fun c19 => ?_) (fun c19 => ?_)
    · refine Sq.nil ?_
      refine Eq.next ?_
      refine Cq.thn rfl ?_
      refine Cq.skip ?_
      refine Eq.next ?_
      refine Cq.seq ?_
      refine Cq.block ?_
      refine Cq.seq ?_
      refine Cq.region ?_
      refine Sq.move .plain rfl rfl ?_
      refine Sq.move .plain rfl rfl ?_
      refine Sq.idxStrs sl91 one9 (Own.row ho13) .plain rfl rfl rfl .plain rfl rfl (by omega) (by omega) ?_
      refine Sq.call fn129 .plain rfl rfl (num10_c (xs12.getD k.toNat ByteArray.empty) (by exact Nat.le_trans (hxs15 _ (getD_mem (by omega))) (by omega)) _) ?_
      rintro _ _ ⟨⟨n20, ok21, rfl, hn22⟩, rfl⟩
      refine Sq.move .plain rfl rfl ?_
      refine Sq.extract .plain rfl rfl rfl ?_
      refine Sq.extract .plain rfl rfl rfl ?_
      refine Sq.assign .plain rfl rfl ?_
      refine Sq.assign .plain rfl rfl ?_
      refine Sq.nil ?_
      refine Eq.next ?_
      refine Cq.seq ?_
      refine Cq.seq ?_
      refine Cq.region ?_
      refine Sq.move .plain rfl rfl ?_
      refine Sq.partB (fun c23 => ?_) (fun c23 => ?_)
      · refine Sq.notT .plain rfl rfl ?_
        refine Sq.nil ?_
        refine Eq.next ?_
        refine Cq.els rfl ?_
        refine Cq.skip ?_
        refine Eq.next ?_
        refine Cq.region ?_
        refine Sq.move .plain rfl rfl ?_
        refine Sq.move .plain rfl rfl ?_
        refine Sq.app1 sl56 ho (by omega) (by simp; omega) .plain rfl rfl rfl rfl rfl rfl rfl (fun v24 w25 ho27 g26 _ => ?_)
        have hs28 := g26.size
        replace E := E.owned ho g26 (by omega)
        replace ho13 := ho13.owned ho g26 (by decide)
        refine Sq.assign .plain rfl rfl ?_
        refine Sq.nil ?_
        refine Eq.end ?_
        refine Eq.next ?_
        refine Cq.region ?_
        refine Sq.move .plain rfl rfl ?_
        refine Sq.add .plain rfl rfl rfl (by omega) ?_
        refine Sq.assign .plain rfl rfl ?_
        refine Sq.nil ?_
        refine Eq.round _ _ ⟨k + 1, _, _, rfl, by omega, Own.snocI ho27, by simp; omega, E, ho13, rfl⟩ (by omega) (.cons rfl (.cons rfl (.cons rfl (.cons rfl (.nil)))))
      · refine Sq.notF .plain rfl rfl ?_
        refine Sq.nil ?_
        refine Eq.next ?_
        refine Cq.thn rfl ?_
        refine Cq.seq ?_
        refine Cq.region ?_
        refine Sq.assign .plain rfl rfl ?_
        refine Sq.assign .plain rfl rfl ?_
        refine Sq.nil ?_
        refine Eq.next ?_
        refine Cq.ret ?_
        refine Eq.pastRet ?_
        refine Eq.outRet ?_
        refine Eq.pastRet ?_
        refine Eq.pastRet ?_
        refine Eq.outRet ?_
        refine Eq.pastRet ?_
        refine Eq.ret2 rfl rfl rfl ?_
        exact ⟨⟨_, _, [], rfl, Own.nil _ _ _, by simp⟩, E⟩
    · refine Sq.nil ?_
      refine Eq.next ?_
      refine Cq.els rfl ?_
      refine Cq.exit ?_
      refine Eq.past ?_
      refine Eq.past ?_
      refine Eq.hit ?_
      refine Eq.next ?_
      refine Cq.seq ?_
      refine Cq.region ?_
      refine Sq.move .plain rfl rfl ?_
      refine Sq.assign .plain rfl rfl ?_
      refine Sq.assign .plain rfl rfl ?_
      refine Sq.nil ?_
      refine Eq.next ?_
      refine Cq.ret ?_
      refine Eq.ret2 rfl rfl rfl ?_
      exact ⟨⟨_, _, ys, rfl, ho, by omega⟩, E⟩

set_option maxRecDepth 100000 in
theorem fmtA_c (w0 : World) (a : A) (nx ac : Value) (hnx : Rows w0 56 3 nx a.next) (hac : Bools w0 4 ac a.acc) : Ret Try.prog 113 #[Value.agg #[Value.int .i64 a.al, nx, ac]] w0 (fun v w => (∃ s, v = .string s ∧ s.size ≤ 2000) ∧ Ext w0 w) := by
  have E := Ext.refl w0
  refine Ret.of (args := [Value.agg #[Value.int .i64 a.al, nx, ac]]) Try.func113 rfl rfl rfl ?_
  rintro _ rfl
  show Cq _ _ _ _ [(0, Value.agg #[Value.int .i64 a.al, nx, ac])] _
  refine Cq.seq ?_
  refine Cq.region ?_
  refine Sq.box .plain rfl rfl (fun b1 w2 e3 hB4 hlo5 => ?_)
  have hd6 := Nat.le_trans (Below.size E) hlo5
  have hs7 := Below.size e3
  replace E := E.trans e3
  refine Sq.assign .plain rfl rfl ?_
  refine Sq.nil ?_
  refine Eq.next ?_
  refine Cq.seq ?_
  refine Cq.seq ?_
  refine Cq.region ?_
  refine Sq.loadAgg agg26 .plain rfl rfl hB4 rfl ?_
  have hd11 := hB4.lt
  refine Sq.call fn52 .plain rfl rfl (sValid_c _ a _ _ (hnx.ext E) (hac.ext E)) ?_
  rintro _ w9 ⟨rfl, e10⟩
  have hs12 := Below.size E
  have hs13 := Below.size e10
  replace E := E.trans e10
  replace hB4 := hB4.ext e10
  refine Sq.partB (fun hv => ?_) (fun hv => ?_)
  · refine Sq.notT .plain rfl rfl ?_
    refine Sq.nil ?_
    refine Eq.next ?_
    refine Cq.els rfl ?_
    refine Cq.skip ?_
    refine Eq.next ?_
    refine Cq.seq ?_
    refine Cq.region ?_
    refine Sq.fieldAddr fld26_0 .plain rfl rfl ?_
    refine Sq.loadB one3 .plain rfl rfl hB4 rfl ?_
    have hd17 := hB4.lt
    refine Sq.call fn128 .plain rfl rfl (fmtAl_c a.al _) ?_
    rintro _ w15 ⟨rfl, e16⟩
    have hs18 := Below.size E
    have hs19 := Below.size e16
    replace E := E.trans e16
    replace hB4 := hB4.ext e16
    refine Sq.assign .plain rfl rfl ?_
    refine Sq.nil ?_
    refine Eq.next ?_
    refine Cq.seq ?_
    refine Cq.seq ?_
    refine Cq.region ?_
    refine Sq.assign .plain rfl rfl ?_
    refine Sq.nil ?_
    refine Eq.next ?_
    refine Cq.block ?_
    have hfs := fmtAl_size a.al
    have hvs := validA_spec.1 hv
    have hv1 := hvs.2.1
    have hv2 := hvs.2.2.1
    refine Cq.loop (fun nn w ls => ∃ (i : Int), ∃ (t : ByteArray), ls = [(1, Value.pointer (some ⟨b1, 0, none⟩)), (3, Value.string t), (4, Value.int .i64 i)] ∧ (0 ≤ i ∧ i ≤ a.next.length) ∧ ((t.size : Int) ≤ 6 + 100 * i) ∧ Ext w0 w ∧ Blk w b1 26 [Value.int .i64 a.al, nx, ac] ∧ nn = ((a.next.length : Int) - i).toNat) _ _ ⟨0, _, rfl, by omega, by omega, E, hB4, rfl⟩ (.cons rfl (.cons rfl (.cons rfl (.nil)))) ?_
    rintro nn wl1 ls ⟨i, t, rfl, hi, ht, E, hB4, rfl⟩
    have hs20 := Below.size E
    have hr6 := valid_row6 hv (k := i.toNat)
    refine Cq.seq ?_
    refine Cq.seq ?_
    refine Cq.region ?_
    refine Sq.move .plain rfl rfl ?_
    refine Sq.fieldAddr fld26_1 .plain rfl rfl ?_
    refine Sq.loadB one23 .plain rfl rfl hB4 rfl ?_
    refine Sq.lenRows (hnx.ext E) .plain rfl und23 rfl ?_
    refine Sq.lss .plain rfl rfl rfl ?_
    refine Sq.part (fun c21 => ?_) (fun c21 => ?_)
    · refine Sq.nil ?_
      refine Eq.next ?_
      refine Cq.thn rfl ?_
      refine Cq.skip ?_
      refine Eq.next ?_
      refine Cq.seq ?_
      refine Cq.block ?_
      refine Cq.seq ?_
      refine Cq.region ?_
      refine Sq.assign .plain rfl rfl ?_
      refine Sq.nil ?_
      refine Eq.next ?_
      refine Cq.seq ?_
      refine Cq.seq ?_
      refine Cq.region ?_
      refine Sq.fieldAddr fld26_2 .plain rfl rfl ?_
      refine Sq.loadB one24 .plain rfl rfl hB4 rfl ?_
      refine Sq.move .plain rfl rfl ?_
      refine Sq.idxBools sl24 one4 (hac.ext E) .plain rfl rfl rfl .plain rfl rfl (by omega) (by omega) ?_
      refine Sq.partB (fun c22 => ?_) (fun c22 => ?_)
      · refine Sq.nil ?_
        refine Eq.next ?_
        refine Cq.thn rfl ?_
        refine Cq.region ?_
        refine Sq.assign .plain rfl rfl ?_
        refine Sq.nil ?_
        refine Eq.next ?_
        refine Cq.seq ?_
        refine Cq.region ?_
        refine Sq.move .plain rfl rfl ?_
        refine Sq.move .plain rfl rfl ?_
        refine Sq.cat .plain rfl rfl rfl (by show t.size + 2 ≤ _; omega) ?_
        refine Sq.assign .plain rfl rfl ?_
        refine Sq.nil ?_
        refine Eq.next ?_
        refine Cq.seq ?_
        refine Cq.region ?_
        refine Sq.assign .plain rfl rfl ?_
        refine Sq.nil ?_
        refine Eq.next ?_
        refine Cq.block ?_
        refine Cq.loop (fun nn w ls => ∃ (k : Int), ∃ (u : ByteArray), ls = [(1, Value.pointer (some ⟨b1, 0, none⟩)), (3, Value.string u), (4, Value.int .i64 i), (6, Value.int .i64 k)] ∧ (0 ≤ k ∧ k ≤ (a.next.getD i.toNat []).length) ∧ ((u.size : Int) ≤ 8 + 100 * i + 15 * k) ∧ Ext w0 w ∧ Blk w b1 26 [Value.int .i64 a.al, nx, ac] ∧ nn = (((a.next.getD i.toNat []).length : Int) - k).toNat) _ _ ⟨0, _, rfl, by omega, by rw [size_cat]; show ((t.size + 2 : Nat) : Int) ≤ _; omega, E, hB4, rfl⟩ (.cons rfl (.cons rfl (.cons rfl (.cons rfl (.nil))))) ?_
        rintro nn wl2 ls ⟨k, u, rfl, hk, hu, E, hB4, rfl⟩
        have hs23 := Below.size E
        have hen := valid_at hv (k := i.toNat) (j := k.toNat)
        refine Cq.seq ?_
        refine Cq.seq ?_
        refine Cq.region ?_
        refine Sq.move .plain rfl rfl ?_
        refine Sq.fieldAddr fld26_1 .plain rfl rfl ?_
        refine Sq.loadB one23 .plain rfl rfl hB4 rfl ?_
        refine Sq.move .plain rfl rfl ?_
        refine Sq.idxRows sl23 one56 (hnx.ext E) .plain rfl rfl rfl .plain rfl rfl (by omega) (by omega) (fun r24 hr25 => ?_)
        refine Sq.lenInts hr25 .plain rfl und56 rfl ?_
        refine Sq.lss .plain rfl rfl rfl ?_
        refine Sq.part (fun c26 => ?_) (fun c26 => ?_)
        · refine Sq.nil ?_
          refine Eq.next ?_
          refine Cq.thn rfl ?_
          refine Cq.skip ?_
          refine Eq.next ?_
          refine Cq.seq ?_
          refine Cq.block ?_
          refine Cq.seq ?_
          refine Cq.seq ?_
          refine Cq.region ?_
          refine Sq.move .plain rfl rfl ?_
          refine Sq.gtr .plain rfl rfl rfl ?_
          refine Sq.part (fun c27 => ?_) (fun c27 => ?_)
          · refine Sq.nil ?_
            refine Eq.next ?_
            refine Cq.thn rfl ?_
            refine Cq.region ?_
            refine Sq.move .plain rfl rfl ?_
            refine Sq.cat .plain rfl rfl rfl (by show u.size + 1 ≤ _; omega) ?_
            refine Sq.assign .plain rfl rfl ?_
            refine Sq.nil ?_
            refine Eq.next ?_
            refine Cq.region ?_
            refine Sq.move .plain rfl rfl ?_
            refine Sq.fieldAddr fld26_1 .plain rfl rfl ?_
            refine Sq.loadB one23 .plain rfl rfl hB4 rfl ?_
            refine Sq.move .plain rfl rfl ?_
            refine Sq.idxRows sl23 one56 (hnx.ext E) .plain rfl rfl rfl .plain rfl rfl (by omega) (by omega) (fun r28 hr29 => ?_)
            refine Sq.move .plain rfl rfl ?_
            refine Sq.idxInts sl56 one3 hr29 .plain rfl rfl rfl .plain rfl rfl (by omega) (by omega) ?_
            have hd35 := hB4.lt
            refine Sq.call fn130 .plain rfl rfl (dec_c ((a.next.getD i.toNat []).getD k.toNat 0) (by have := hen (by omega) (by omega); omega) _) ?_
            rintro _ w31 ⟨⟨s33, rfl, hs34⟩, e32⟩
            have hs36 := Below.size E
            have hs37 := Below.size e32
            replace E := E.trans e32
            replace hB4 := hB4.ext e32
            replace hr25 := hr25.ext e32
            replace hr29 := hr29.ext e32
            refine Sq.cat .plain rfl rfl rfl (by (try simp only [size_cat]); first | omega | (show (u.size + 1) + _ ≤ _; omega)) ?_
            refine Sq.assign .plain rfl rfl ?_
            refine Sq.nil ?_
            refine Eq.end ?_
            refine Eq.next ?_
            refine Cq.region ?_
            refine Sq.move .plain rfl rfl ?_
            refine Sq.add .plain rfl rfl rfl (by omega) ?_
            refine Sq.assign .plain rfl rfl ?_
            refine Sq.nil ?_
            refine Eq.round _ _ ⟨k + 1, _, rfl, by omega, by simp only [size_cat]; first | omega | (show ((u.size + 1 + _ : Nat) : Int) ≤ _; omega), E, hB4, rfl⟩ (by omega) (.cons rfl (.cons rfl (.cons rfl (.cons rfl (.nil)))))
          · refine Sq.nil ?_
            refine Eq.next ?_
            refine Cq.els rfl ?_
            refine Cq.skip ?_
            refine Eq.next ?_
            refine Cq.region ?_
            refine Sq.move .plain rfl rfl ?_
            refine Sq.fieldAddr fld26_1 .plain rfl rfl ?_
            refine Sq.loadB one23 .plain rfl rfl hB4 rfl ?_
            refine Sq.move .plain rfl rfl ?_
            refine Sq.idxRows sl23 one56 (hnx.ext E) .plain rfl rfl rfl .plain rfl rfl (by omega) (by omega) (fun r38 hr39 => ?_)
            refine Sq.move .plain rfl rfl ?_
            refine Sq.idxInts sl56 one3 hr39 .plain rfl rfl rfl .plain rfl rfl (by omega) (by omega) ?_
            have hd45 := hB4.lt
            refine Sq.call fn130 .plain rfl rfl (dec_c ((a.next.getD i.toNat []).getD k.toNat 0) (by have := hen (by omega) (by omega); omega) _) ?_
            rintro _ w41 ⟨⟨s43, rfl, hs44⟩, e42⟩
            have hs46 := Below.size E
            have hs47 := Below.size e42
            replace E := E.trans e42
            replace hB4 := hB4.ext e42
            replace hr25 := hr25.ext e42
            replace hr39 := hr39.ext e42
            refine Sq.cat .plain rfl rfl rfl (by (try simp only [size_cat]); first | omega | (show (u.size + 1) + _ ≤ _; omega)) ?_
            refine Sq.assign .plain rfl rfl ?_
            refine Sq.nil ?_
            refine Eq.end ?_
            refine Eq.next ?_
            refine Cq.region ?_
            refine Sq.move .plain rfl rfl ?_
            refine Sq.add .plain rfl rfl rfl (by omega) ?_
            refine Sq.assign .plain rfl rfl ?_
            refine Sq.nil ?_
            refine Eq.round _ _ ⟨k + 1, _, rfl, by omega, by simp only [size_cat]; first | omega | (show ((u.size + 1 + _ : Nat) : Int) ≤ _; omega), E, hB4, rfl⟩ (by omega) (.cons rfl (.cons rfl (.cons rfl (.cons rfl (.nil)))))
        · refine Sq.nil ?_
          refine Eq.next ?_
          refine Cq.els rfl ?_
          refine Cq.exit ?_
          refine Eq.past ?_
          refine Eq.past ?_
          refine Eq.hit ?_
          refine Eq.end ?_
          refine Eq.next ?_
          refine Cq.region ?_
          refine Sq.move .plain rfl rfl ?_
          refine Sq.add .plain rfl rfl rfl (by omega) ?_
          refine Sq.assign .plain rfl rfl ?_
          refine Sq.nil ?_
          refine Eq.round _ _ ⟨i + 1, _, rfl, by omega, by omega, E, hB4, rfl⟩ (by omega) (.cons rfl (.cons rfl (.cons rfl (.nil))))
      · refine Sq.nil ?_
        refine Eq.next ?_
        refine Cq.els rfl ?_
        refine Cq.skip ?_
        refine Eq.next ?_
        refine Cq.seq ?_
        refine Cq.region ?_
        refine Sq.move .plain rfl rfl ?_
        refine Sq.move .plain rfl rfl ?_
        refine Sq.cat .plain rfl rfl rfl (by show t.size + 2 ≤ _; omega) ?_
        refine Sq.assign .plain rfl rfl ?_
        refine Sq.nil ?_
        refine Eq.next ?_
        refine Cq.seq ?_
        refine Cq.region ?_
        refine Sq.assign .plain rfl rfl ?_
        refine Sq.nil ?_
        refine Eq.next ?_
        refine Cq.block ?_
        refine Cq.loop (fun nn w ls => ∃ (k : Int), ∃ (u : ByteArray), ls = [(1, Value.pointer (some ⟨b1, 0, none⟩)), (3, Value.string u), (4, Value.int .i64 i), (6, Value.int .i64 k)] ∧ (0 ≤ k ∧ k ≤ (a.next.getD i.toNat []).length) ∧ ((u.size : Int) ≤ 8 + 100 * i + 15 * k) ∧ Ext w0 w ∧ Blk w b1 26 [Value.int .i64 a.al, nx, ac] ∧ nn = (((a.next.getD i.toNat []).length : Int) - k).toNat) _ _ ⟨0, _, rfl, by omega, by rw [size_cat]; show ((t.size + 2 : Nat) : Int) ≤ _; omega, E, hB4, rfl⟩ (.cons rfl (.cons rfl (.cons rfl (.cons rfl (.nil))))) ?_
        rintro nn wl2 ls ⟨k, u, rfl, hk, hu, E, hB4, rfl⟩
        have hs48 := Below.size E
        have hen := valid_at hv (k := i.toNat) (j := k.toNat)
        refine Cq.seq ?_
        refine Cq.seq ?_
        refine Cq.region ?_
        refine Sq.move .plain rfl rfl ?_
        refine Sq.fieldAddr fld26_1 .plain rfl rfl ?_
        refine Sq.loadB one23 .plain rfl rfl hB4 rfl ?_
        refine Sq.move .plain rfl rfl ?_
        refine Sq.idxRows sl23 one56 (hnx.ext E) .plain rfl rfl rfl .plain rfl rfl (by omega) (by omega) (fun r49 hr50 => ?_)
        refine Sq.lenInts hr50 .plain rfl und56 rfl ?_
        refine Sq.lss .plain rfl rfl rfl ?_
        refine Sq.part (fun c51 => ?_) (fun c51 => ?_)
        · refine Sq.nil ?_
          refine Eq.next ?_
          refine Cq.thn rfl ?_
          refine Cq.skip ?_
          refine Eq.next ?_
          refine Cq.seq ?_
          refine Cq.block ?_
          refine Cq.seq ?_
          refine Cq.seq ?_
          refine Cq.region ?_
          refine Sq.move .plain rfl rfl ?_
          refine Sq.gtr .plain rfl rfl rfl ?_
          refine Sq.part (fun c52 => ?_) (fun c52 => ?_)
          · refine Sq.nil ?_
            refine Eq.next ?_
            refine Cq.thn rfl ?_
            refine Cq.region ?_
            refine Sq.move .plain rfl rfl ?_
            refine Sq.cat .plain rfl rfl rfl (by show u.size + 1 ≤ _; omega) ?_
            refine Sq.assign .plain rfl rfl ?_
            refine Sq.nil ?_
            refine Eq.next ?_
            refine Cq.region ?_
            refine Sq.move .plain rfl rfl ?_
            refine Sq.fieldAddr fld26_1 .plain rfl rfl ?_
            refine Sq.loadB one23 .plain rfl rfl hB4 rfl ?_
            refine Sq.move .plain rfl rfl ?_
            refine Sq.idxRows sl23 one56 (hnx.ext E) .plain rfl rfl rfl .plain rfl rfl (by omega) (by omega) (fun r53 hr54 => ?_)
            refine Sq.move .plain rfl rfl ?_
            refine Sq.idxInts sl56 one3 hr54 .plain rfl rfl rfl .plain rfl rfl (by omega) (by omega) ?_
            have hd60 := hB4.lt
            refine Sq.call fn130 .plain rfl rfl (dec_c ((a.next.getD i.toNat []).getD k.toNat 0) (by have := hen (by omega) (by omega); omega) _) ?_
            rintro _ w56 ⟨⟨s58, rfl, hs59⟩, e57⟩
            have hs61 := Below.size E
            have hs62 := Below.size e57
            replace E := E.trans e57
            replace hB4 := hB4.ext e57
            replace hr50 := hr50.ext e57
            replace hr54 := hr54.ext e57
            refine Sq.cat .plain rfl rfl rfl (by (try simp only [size_cat]); first | omega | (show (u.size + 1) + _ ≤ _; omega)) ?_
            refine Sq.assign .plain rfl rfl ?_
            refine Sq.nil ?_
            refine Eq.end ?_
            refine Eq.next ?_
            refine Cq.region ?_
            refine Sq.move .plain rfl rfl ?_
            refine Sq.add .plain rfl rfl rfl (by omega) ?_
            refine Sq.assign .plain rfl rfl ?_
            refine Sq.nil ?_
            refine Eq.round _ _ ⟨k + 1, _, rfl, by omega, by simp only [size_cat]; first | omega | (show ((u.size + 1 + _ : Nat) : Int) ≤ _; omega), E, hB4, rfl⟩ (by omega) (.cons rfl (.cons rfl (.cons rfl (.cons rfl (.nil)))))
          · refine Sq.nil ?_
            refine Eq.next ?_
            refine Cq.els rfl ?_
            refine Cq.skip ?_
            refine Eq.next ?_
            refine Cq.region ?_
            refine Sq.move .plain rfl rfl ?_
            refine Sq.fieldAddr fld26_1 .plain rfl rfl ?_
            refine Sq.loadB one23 .plain rfl rfl hB4 rfl ?_
            refine Sq.move .plain rfl rfl ?_
            refine Sq.idxRows sl23 one56 (hnx.ext E) .plain rfl rfl rfl .plain rfl rfl (by omega) (by omega) (fun r63 hr64 => ?_)
            refine Sq.move .plain rfl rfl ?_
            refine Sq.idxInts sl56 one3 hr64 .plain rfl rfl rfl .plain rfl rfl (by omega) (by omega) ?_
            have hd70 := hB4.lt
            refine Sq.call fn130 .plain rfl rfl (dec_c ((a.next.getD i.toNat []).getD k.toNat 0) (by have := hen (by omega) (by omega); omega) _) ?_
            rintro _ w66 ⟨⟨s68, rfl, hs69⟩, e67⟩
            have hs71 := Below.size E
            have hs72 := Below.size e67
            replace E := E.trans e67
            replace hB4 := hB4.ext e67
            replace hr50 := hr50.ext e67
            replace hr64 := hr64.ext e67
            refine Sq.cat .plain rfl rfl rfl (by (try simp only [size_cat]); first | omega | (show (u.size + 1) + _ ≤ _; omega)) ?_
            refine Sq.assign .plain rfl rfl ?_
            refine Sq.nil ?_
            refine Eq.end ?_
            refine Eq.next ?_
            refine Cq.region ?_
            refine Sq.move .plain rfl rfl ?_
            refine Sq.add .plain rfl rfl rfl (by omega) ?_
            refine Sq.assign .plain rfl rfl ?_
            refine Sq.nil ?_
            refine Eq.round _ _ ⟨k + 1, _, rfl, by omega, by simp only [size_cat]; first | omega | (show ((u.size + 1 + _ : Nat) : Int) ≤ _; omega), E, hB4, rfl⟩ (by omega) (.cons rfl (.cons rfl (.cons rfl (.cons rfl (.nil)))))
        · refine Sq.nil ?_
          refine Eq.next ?_
          refine Cq.els rfl ?_
          refine Cq.exit ?_
          refine Eq.past ?_
          refine Eq.past ?_
          refine Eq.hit ?_
          refine Eq.end ?_
          refine Eq.next ?_
          refine Cq.region ?_
          refine Sq.move .plain rfl rfl ?_
          refine Sq.add .plain rfl rfl rfl (by omega) ?_
          refine Sq.assign .plain rfl rfl ?_
          refine Sq.nil ?_
          refine Eq.round _ _ ⟨i + 1, _, rfl, by omega, by omega, E, hB4, rfl⟩ (by omega) (.cons rfl (.cons rfl (.cons rfl (.nil))))
    · refine Sq.nil ?_
      refine Eq.next ?_
      refine Cq.els rfl ?_
      refine Cq.exit ?_
      refine Eq.past ?_
      refine Eq.past ?_
      refine Eq.hit ?_
      refine Eq.next ?_
      refine Cq.seq ?_
      refine Cq.region ?_
      refine Sq.move .plain rfl rfl ?_
      refine Sq.assign .plain rfl rfl ?_
      refine Sq.nil ?_
      refine Eq.next ?_
      refine Cq.ret ?_
      refine Eq.ret1 rfl rfl ?_
      exact ⟨⟨_, rfl, by first | (show 0 ≤ 2000; omega) | omega⟩, E⟩
  · refine Sq.notF .plain rfl rfl ?_
    refine Sq.nil ?_
    refine Eq.next ?_
    refine Cq.thn rfl ?_
    refine Cq.seq ?_
    refine Cq.region ?_
    refine Sq.assign .plain rfl rfl ?_
    refine Sq.nil ?_
    refine Eq.next ?_
    refine Cq.ret ?_
    refine Eq.pastRet ?_
    refine Eq.ret1 rfl rfl ?_
    exact ⟨⟨_, rfl, by first | (show 0 ≤ 2000; omega) | omega⟩, E⟩

end Go.Proofs.Ytdejmfkpohgamaa
