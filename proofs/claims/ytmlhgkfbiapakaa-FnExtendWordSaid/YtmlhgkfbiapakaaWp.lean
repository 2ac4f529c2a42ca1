/-
  Walks, printed by a program out of the translation and a contract for each function; each step is one law.
-/
import Derived.Test.YtmlhgkfbiapakaaWj
import Derived.Test.YtmlhgkfbiapakaaWord
set_option linter.unusedSimpArgs false
set_option linter.unusedVariables false
namespace Go.Proofs.Ytmlhgkfbiapakaa
open Go.RowKit

set_option maxRecDepth 100000 in
theorem l1At_c (s : ByteArray) (i : Int) (hi : 0 ≤ i ∧ i < s.size) (w0 : World) : Ret Try.prog 82 #[Value.string s, Value.int .i64 i] w0 (fun v w => v = .int .i64 ((lts s).getD i.toNat 0) ∧ w0 = w) := by
  refine Ret.of (args := [Value.string s, Value.int .i64 i]) Try.func82 rfl rfl rfl ?_
  rintro _ rfl
  show Cq _ _ _ _ [(0, Value.string s), (1, Value.int .i64 i)] _
  refine Cq.seq ?_
  refine Cq.region ?_
  refine Sq.assign .plain rfl rfl ?_
  refine Sq.nil ?_
  refine Eq.next ?_
  refine Cq.seq ?_
  refine Cq.region ?_
  refine Sq.move .plain rfl rfl ?_
  refine Sq.move .plain rfl rfl ?_
  refine Sq.idxStr .plain rfl und9 rfl rfl (by omega) (str_at (by omega)) ?_
  refine Sq.conv conv5_3 .plain rfl rfl (u8_ok _) ?_
  refine Sq.sub .plain rfl rfl rfl (by have := u8_le (s.data.toList.getD i.toNat 0); omega) ?_
  refine Sq.assign .plain rfl rfl ?_
  refine Sq.nil ?_
  refine Eq.next ?_
  refine Cq.ret ?_
  refine Eq.ret1 rfl rfl ?_
  exact ⟨by rw [lts_at (by omega)], rfl⟩

set_option maxRecDepth 100000 in
theorem l1Bit_c (x : Int) (hx : 0 ≤ x ∧ x < 6) (w0 : World) : Ret Try.prog 87 #[Value.int .i64 x] w0 (fun v w => v = .int .i64 (bit x) ∧ w0 = w) := by
  refine Ret.of (args := [Value.int .i64 x]) Try.func87 rfl rfl rfl ?_
  rintro _ rfl
  show Cq _ _ _ _ [(0, Value.int .i64 x)] _
  refine Cq.seq ?_
  refine Cq.region ?_
  refine Sq.assign .plain rfl rfl ?_
  refine Sq.nil ?_
  refine Eq.next ?_
  refine Cq.seq ?_
  refine Cq.region ?_
  refine Sq.move .plain rfl rfl ?_
  refine Sq.convU conv3_73 .plain rfl rfl (by omega) ?_
  refine Sq.shl .plain rfl rfl rfl (by omega) ?_
  refine Sq.assign .plain rfl rfl ?_
  refine Sq.nil ?_
  refine Eq.next ?_
  refine Cq.ret ?_
  refine Eq.ret1 rfl rfl ?_
  exact ⟨by rw [Int.one_mul]; rfl, rfl⟩

set_option maxRecDepth 100000 in
theorem sWordValid_c (s : ByteArray) (hsz : s.size ≤ 1000000) (w0 : World) : Ret Try.prog 86 #[Value.string s] w0 (fun v w => v = .bool (within s 63) ∧ w0 = w) := by
  refine Ret.of (args := [Value.string s]) Try.func86 rfl rfl rfl ?_
  rintro _ rfl
  show Cq _ _ _ _ [(0, Value.string s)] _
  refine Cq.seq ?_
  refine Cq.region ?_
  refine Sq.assign .plain rfl rfl ?_
  refine Sq.nil ?_
  refine Eq.next ?_
  refine Cq.seq ?_
  refine Cq.seq ?_
  refine Cq.region ?_
  refine Sq.move .plain rfl rfl ?_
  refine Sq.lenStr .plain rfl und9 rfl ?_
  refine Sq.gtr .plain rfl rfl rfl ?_
  refine Sq.part (fun c1 => ?_) (fun c1 => ?_)
  · refine Sq.nil ?_
    refine Eq.next ?_
    refine Cq.thn rfl ?_
    refine Cq.seq ?_
    refine Cq.region ?_
    refine Sq.assign .plain rfl rfl ?_
    refine Sq.nil ?_
    refine Eq.next ?_
    refine Cq.ret ?_
    refine Eq.pastRet ?_
    refine Eq.ret1 rfl rfl ?_
    exact ⟨by first | rw [within_size (by omega)] | rw [within_bad (k := k.toNat) (by omega) (by rw [hs63]; exact decide_eq_false (by omega))] | rw [within_good (k := k.toNat) (by decide) (by omega) hp (by omega)], rfl⟩
  · refine Sq.nil ?_
    refine Eq.next ?_
    refine Cq.els rfl ?_
    refine Cq.skip ?_
    refine Eq.next ?_
    refine Cq.seq ?_
    refine Cq.seq ?_
    refine Cq.region ?_
    refine Sq.assign .plain rfl rfl ?_
    refine Sq.nil ?_
    refine Eq.next ?_
    refine Cq.block ?_
    refine Cq.loop (fun nn w ls => ∃ (k : Int), ls = [(0, Value.string s), (3, Value.int .i64 k)] ∧ w0 = w ∧ (0 ≤ k ∧ k ≤ s.size) ∧ ((lts s).take k.toNat).all (hs 63) = true ∧ nn = ((s.size : Int) - k).toNat) _ _ ⟨0, rfl, rfl, by omega, rfl, rfl⟩ (.cons rfl (.cons rfl (.nil))) ?_
    rintro n1 w ls' ⟨k, rfl, rfl, hk, hp, rfl⟩
    have hll := lts_length s
    refine Cq.seq ?_
    refine Cq.seq ?_
    refine Cq.region ?_
    refine Sq.move .plain rfl rfl ?_
    refine Sq.move .plain rfl rfl ?_
    refine Sq.lenStr .plain rfl und9 rfl ?_
    refine Sq.lss .plain rfl rfl rfl ?_
    refine Sq.part (fun c2 => ?_) (fun c2 => ?_)
    · refine Sq.nil ?_
      refine Eq.next ?_
      refine Cq.thn rfl ?_
      refine Cq.skip ?_
      refine Eq.next ?_
      refine Cq.seq ?_
      refine Cq.block ?_
      refine Cq.seq ?_
      refine Cq.region ?_
      refine Sq.move .plain rfl rfl ?_
      refine Sq.move .plain rfl rfl ?_
      refine Sq.call fn82 .plain rfl rfl (l1At_c s k (by omega) _) ?_
      rintro _ _ ⟨rfl, rfl⟩
      refine Sq.lss .plain rfl rfl rfl ?_
      refine Sq.part (fun c3 => ?_) (fun c3 => ?_)
      · refine Sq.move .plain rfl rfl ?_
        refine Sq.off rfl rfl rfl rfl rfl rfl ?_
        refine Sq.off rfl rfl rfl rfl rfl rfl ?_
        refine Sq.off rfl rfl rfl rfl rfl rfl ?_
        refine Sq.off rfl rfl rfl rfl rfl rfl ?_
        refine Sq.pickT .plain rfl rfl rfl ?_
        refine Sq.nil ?_
        refine Eq.next ?_
        refine Cq.thn rfl ?_
        refine Cq.seq ?_
        refine Cq.region ?_
        refine Sq.assign .plain rfl rfl ?_
        refine Sq.nil ?_
        refine Eq.next ?_
        refine Cq.ret ?_
        refine Eq.outRet ?_
        refine Eq.pastRet ?_
        refine Eq.pastRet ?_
        refine Eq.outRet ?_
        refine Eq.pastRet ?_
        refine Eq.ret1 rfl rfl ?_
        exact ⟨by first | rw [within_size (by omega)] | rw [within_bad (k := k.toNat) (by omega) (by rw [hs63]; exact decide_eq_false (by omega))] | rw [within_good (k := k.toNat) (by decide) (by omega) hp (by omega)], rfl⟩
      · refine Sq.move .plain rfl rfl ?_
        refine Sq.move (.met rfl rfl rfl) rfl rfl ?_
        refine Sq.move (.met rfl rfl rfl) rfl rfl ?_
        refine Sq.call fn82 (.met rfl rfl rfl) rfl rfl (l1At_c s k (by omega) _) ?_
        rintro _ _ ⟨rfl, rfl⟩
        refine Sq.geq (.met rfl rfl rfl) rfl rfl rfl ?_
        refine Sq.part (fun c4 => ?_) (fun c4 => ?_)
        · refine Sq.pickF .plain rfl rfl rfl ?_
          refine Sq.nil ?_
          refine Eq.next ?_
          refine Cq.thn rfl ?_
          refine Cq.seq ?_
          refine Cq.region ?_
          refine Sq.assign .plain rfl rfl ?_
          refine Sq.nil ?_
          refine Eq.next ?_
          refine Cq.ret ?_
          refine Eq.outRet ?_
          refine Eq.pastRet ?_
          refine Eq.pastRet ?_
          refine Eq.outRet ?_
          refine Eq.pastRet ?_
          refine Eq.ret1 rfl rfl ?_
          exact ⟨by first | rw [within_size (by omega)] | rw [within_bad (k := k.toNat) (by omega) (by rw [hs63]; exact decide_eq_false (by omega))] | rw [within_good (k := k.toNat) (by decide) (by omega) hp (by omega)], rfl⟩
        · refine Sq.pickF .plain rfl rfl rfl ?_
          refine Sq.nil ?_
          refine Eq.next ?_
          refine Cq.els rfl ?_
          refine Cq.skip ?_
          refine Eq.end ?_
          refine Eq.next ?_
          refine Cq.region ?_
          refine Sq.move .plain rfl rfl ?_
          refine Sq.add .plain rfl rfl rfl (by omega) ?_
          refine Sq.assign .plain rfl rfl ?_
          refine Sq.nil ?_
          have e1 := toNat_succ hk.1
          refine Eq.round _ _ ⟨k + 1, rfl, rfl, by omega, by rw [e1]; exact all_snoc (d := 0) hp (by omega) (by rw [hs63]; exact decide_eq_true (by omega)), rfl⟩ (by omega) (.cons rfl (.cons rfl (.nil)))
    · refine Sq.nil ?_
      refine Eq.next ?_
      refine Cq.els rfl ?_
      refine Cq.exit ?_
      refine Eq.past ?_
      refine Eq.past ?_
      refine Eq.hit ?_
      refine Eq.next ?_
      refine Cq.seq ?_
      refine Cq.region ?_
      refine Sq.assign .plain rfl rfl ?_
      refine Sq.nil ?_
      refine Eq.next ?_
      refine Cq.ret ?_
      refine Eq.ret1 rfl rfl ?_
      exact ⟨by first | rw [within_size (by omega)] | rw [within_bad (k := k.toNat) (by omega) (by rw [hs63]; exact decide_eq_false (by omega))] | rw [within_good (k := k.toNat) (by decide) (by omega) hp (by omega)], rfl⟩

set_option maxRecDepth 100000 in
theorem alphabetOf_c (s : ByteArray) (hsz : s.size ≤ 1000000) (w0 : World) : Ret Try.prog 81 #[Value.string s] w0 (fun v w => (∃ n, v = .tuple #[.int .i64 n, .bool (within s 63)] ∧ (within s 63 = true → n = setTo s s.size)) ∧ w0 = w) := by
  refine Ret.of (args := [Value.string s]) Try.func81 rfl rfl rfl ?_
  rintro _ rfl
  show Cq _ _ _ _ [(0, Value.string s)] _
  refine Cq.seq ?_
  refine Cq.region ?_
  refine Sq.assign .plain rfl rfl ?_
  refine Sq.assign .plain rfl rfl ?_
  refine Sq.nil ?_
  refine Eq.next ?_
  refine Cq.seq ?_
  refine Cq.seq ?_
  refine Cq.region ?_
  refine Sq.move .plain rfl rfl ?_
  refine Sq.call fn86 .plain rfl rfl (sWordValid_c s (by omega) _) ?_
  rintro _ _ ⟨rfl, rfl⟩
  refine Sq.partB (fun hv => ?_) (fun hv => ?_)
  · refine Sq.notT .plain rfl rfl ?_
    refine Sq.nil ?_
    refine Eq.next ?_
    refine Cq.els rfl ?_
    refine Cq.skip ?_
    refine Eq.next ?_
    refine Cq.seq ?_
    refine Cq.region ?_
    refine Sq.assign .plain rfl rfl ?_
    refine Sq.nil ?_
    refine Eq.next ?_
    refine Cq.seq ?_
    refine Cq.seq ?_
    refine Cq.region ?_
    refine Sq.assign .plain rfl rfl ?_
    refine Sq.nil ?_
    refine Eq.next ?_
    refine Cq.block ?_
    refine Cq.loop (fun nn w ls => ∃ (k : Int), ∃ (m : Int), ls = [(0, Value.string s), (4, Value.int .i64 m), (5, Value.int .i64 k)] ∧ w0 = w ∧ (0 ≤ k ∧ k ≤ s.size) ∧ m = setTo s k.toNat ∧ nn = ((s.size : Int) - k).toNat) _ _ ⟨0, 0, rfl, rfl, by omega, rfl, rfl⟩ (.cons rfl (.cons rfl (.cons rfl (.nil)))) ?_
    rintro n1 w ls' ⟨k, m, rfl, rfl, hk, hm, rfl⟩
    have hsi := (fold_set ((lts s).take k.toNat) 0 (fun x hx => letters_in hv x (List.mem_of_mem_take hx)) (by decide)).1
    have hmi : 0 ≤ m ∧ m ≤ 63 := by rw [hm]; exact hsi
    have hll := lts_length s
    have hli : k < s.size → 0 ≤ (lts s).getD k.toNat 0 ∧ (lts s).getD k.toNat 0 < 6 := fun h => letters_in hv _ (getD_mem (by omega))
    refine Cq.seq ?_
    refine Cq.seq ?_
    refine Cq.region ?_
    refine Sq.move .plain rfl rfl ?_
    refine Sq.move .plain rfl rfl ?_
    refine Sq.lenStr .plain rfl und9 rfl ?_
    refine Sq.lss .plain rfl rfl rfl ?_
    refine Sq.part (fun c1 => ?_) (fun c1 => ?_)
    · refine Sq.nil ?_
      refine Eq.next ?_
      refine Cq.thn rfl ?_
      refine Cq.skip ?_
      refine Eq.next ?_
      refine Cq.seq ?_
      refine Cq.block ?_
      refine Cq.region ?_
      refine Sq.move .plain rfl rfl ?_
      refine Sq.move .plain rfl rfl ?_
      refine Sq.move .plain rfl rfl ?_
      refine Sq.call fn82 .plain rfl rfl (l1At_c s k (by omega) _) ?_
      rintro _ _ ⟨rfl, rfl⟩
      refine Sq.call fn87 .plain rfl rfl (l1Bit_c (((lts s).getD k.toNat 0)) (by have := hli (by omega); omega) _) ?_
      rintro _ _ ⟨rfl, rfl⟩
      refine Sq.or .plain rfl rfl rfl (by have := bit_in (hli (by omega)); omega) ?_
      refine Sq.assign .plain rfl rfl ?_
      refine Sq.nil ?_
      refine Eq.end ?_
      refine Eq.next ?_
      refine Cq.region ?_
      refine Sq.move .plain rfl rfl ?_
      refine Sq.add .plain rfl rfl rfl (by omega) ?_
      refine Sq.assign .plain rfl rfl ?_
      refine Sq.nil ?_
      have e1 := toNat_succ hk.1
      refine Eq.round _ _ ⟨k + 1, _, rfl, rfl, by omega, by rw [e1, setTo_succ (by omega), ← hm]; rfl, rfl⟩ (by omega) (.cons rfl (.cons rfl (.cons rfl (.nil))))
    · refine Sq.nil ?_
      refine Eq.next ?_
      refine Cq.els rfl ?_
      refine Cq.exit ?_
      refine Eq.past ?_
      refine Eq.past ?_
      refine Eq.hit ?_
      refine Eq.next ?_
      refine Cq.seq ?_
      refine Cq.region ?_
      refine Sq.move .plain rfl rfl ?_
      refine Sq.assign .plain rfl rfl ?_
      refine Sq.assign .plain rfl rfl ?_
      refine Sq.nil ?_
      refine Eq.next ?_
      refine Cq.ret ?_
      refine Eq.ret2 rfl rfl rfl ?_
      exact ⟨⟨_, by rw [hv], fun _ => by rw [hm, show k.toNat = s.size by omega]⟩, rfl⟩
  · refine Sq.notF .plain rfl rfl ?_
    refine Sq.nil ?_
    refine Eq.next ?_
    refine Cq.thn rfl ?_
    refine Cq.seq ?_
    refine Cq.region ?_
    refine Sq.assign .plain rfl rfl ?_
    refine Sq.assign .plain rfl rfl ?_
    refine Sq.nil ?_
    refine Eq.next ?_
    refine Cq.ret ?_
    refine Eq.pastRet ?_
    refine Eq.ret2 rfl rfl rfl ?_
    exact ⟨⟨_, by rw [hv], fun h => by rw [hv] at h; cases h⟩, rfl⟩

set_option maxRecDepth 100000 in
theorem sWithin_c (s : ByteArray) (hsz : s.size ≤ 1000000) (al : Int) (w0 : World) : Ret Try.prog 66 #[Value.string s, Value.int .i64 al] w0 (fun v w => v = .bool (within s al) ∧ w0 = w) := by
  refine Ret.of (args := [Value.string s, Value.int .i64 al]) Try.func66 rfl rfl rfl ?_
  rintro _ rfl
  show Cq _ _ _ _ [(0, Value.string s), (1, Value.int .i64 al)] _
  refine Cq.seq ?_
  refine Cq.region ?_
  refine Sq.assign .plain rfl rfl ?_
  refine Sq.nil ?_
  refine Eq.next ?_
  refine Cq.seq ?_
  refine Cq.region ?_
  refine Sq.move .plain rfl rfl ?_
  refine Sq.call fn81 .plain rfl rfl (alphabetOf_c s (by omega) _) ?_
  rintro _ _ ⟨⟨n1, rfl, hn2⟩, rfl⟩
  refine Sq.move .plain rfl rfl ?_
  refine Sq.extract .plain rfl rfl rfl ?_
  refine Sq.extract .plain rfl rfl rfl ?_
  refine Sq.assign .plain rfl rfl ?_
  refine Sq.assign .plain rfl rfl ?_
  refine Sq.nil ?_
  refine Eq.next ?_
  refine Cq.seq ?_
  refine Cq.region ?_
  refine Sq.move .plain rfl rfl ?_
  refine Sq.partB (fun hv => ?_) (fun hv => ?_)
  · refine Sq.move .plain rfl rfl ?_
    refine Sq.move (.met rfl rfl rfl) rfl rfl ?_
    refine Sq.call fn56 (.met rfl rfl rfl) rfl rfl (l1Alphabet_c _ _) ?_
    rintro _ _ ⟨rfl, rfl⟩
    refine Sq.part (fun hal => ?_) (fun hal => ?_)
    · refine Sq.pickT .plain rfl rfl rfl ?_
      refine Sq.move .plain rfl rfl ?_
      refine Sq.move (.met rfl rfl rfl) rfl rfl ?_
      refine Sq.move (.met rfl rfl rfl) rfl rfl ?_
      refine Sq.and (.met rfl rfl rfl) rfl rfl rfl (by have := hn2 hv; have h2 := (fold_set (lts s) 0 (letters_in hv) (by decide)).1; rw [setTo, List.take_of_length_le (by rw [lts_length]; exact Nat.le_refl _)] at this; omega) ?_
      refine Sq.move (.met rfl rfl rfl) rfl rfl ?_
      refine Sq.eql (.met rfl rfl rfl) rfl rfl rfl ?_
      refine Sq.pickT .plain rfl rfl rfl ?_
      refine Sq.assign .plain rfl rfl ?_
      refine Sq.nil ?_
      refine Eq.next ?_
      refine Cq.ret ?_
      refine Eq.ret1 rfl rfl ?_
      exact ⟨by first | rw [within_al (by omega)] | (rw [hn2 hv, within_and hv hal]) | (congr 1; cases hh : within s al with | false => rfl | true => (obtain ⟨h1, h2, h3⟩ := within_spec.1 hh; rw [within_spec.2 ⟨by decide, h2, fun x hx => by rw [hs63]; exact decide_eq_true (hs_small h1 (h3 x hx))⟩] at hv; cases hv)), rfl⟩
    · refine Sq.pickT .plain rfl rfl rfl ?_
      refine Sq.move .plain rfl rfl ?_
      refine Sq.off rfl rfl rfl rfl rfl rfl ?_
      refine Sq.off rfl rfl rfl rfl rfl rfl ?_
      refine Sq.off rfl rfl rfl rfl rfl rfl ?_
      refine Sq.off rfl rfl rfl rfl rfl rfl ?_
      refine Sq.off rfl rfl rfl rfl rfl rfl ?_
      refine Sq.pickF .plain rfl rfl rfl ?_
      refine Sq.assign .plain rfl rfl ?_
      refine Sq.nil ?_
      refine Eq.next ?_
      refine Cq.ret ?_
      refine Eq.ret1 rfl rfl ?_
      exact ⟨by first | rw [within_al (by omega)] | (rw [hn2 hv, within_and hv hal]) | (congr 1; cases hh : within s al with | false => rfl | true => (obtain ⟨h1, h2, h3⟩ := within_spec.1 hh; rw [within_spec.2 ⟨by decide, h2, fun x hx => by rw [hs63]; exact decide_eq_true (hs_small h1 (h3 x hx))⟩] at hv; cases hv)), rfl⟩
  · refine Sq.move .plain rfl rfl ?_
    refine Sq.off rfl rfl rfl rfl rfl rfl ?_
    refine Sq.off rfl rfl rfl rfl rfl rfl ?_
    refine Sq.pickF .plain rfl rfl rfl ?_
    refine Sq.move .plain rfl rfl ?_
    refine Sq.off rfl rfl rfl rfl rfl rfl ?_
    refine Sq.off rfl rfl rfl rfl rfl rfl ?_
    refine Sq.off rfl rfl rfl rfl rfl rfl ?_
    refine Sq.off rfl rfl rfl rfl rfl rfl ?_
    refine Sq.off rfl rfl rfl rfl rfl rfl ?_
    refine Sq.pickF .plain rfl rfl rfl ?_
    refine Sq.assign .plain rfl rfl ?_
    refine Sq.nil ?_
    refine Eq.next ?_
    refine Cq.ret ?_
    refine Eq.ret1 rfl rfl ?_
    exact ⟨by first | rw [within_al (by omega)] | (rw [hn2 hv, within_and hv hal]) | (congr 1; cases hh : within s al with | false => rfl | true => (obtain ⟨h1, h2, h3⟩ := within_spec.1 hh; rw [within_spec.2 ⟨by decide, h2, fun x hx => by rw [hs63]; exact decide_eq_true (hs_small h1 (h3 x hx))⟩] at hv; cases hv)), rfl⟩

set_option maxRecDepth 100000 in
theorem l3Run_c (w0 : World) (a : A) (nx ac : Value) (hnx : Rows w0 47 3 nx a.next) (hac : Bools w0 4 ac a.acc) (q : Int) (s : ByteArray) (hsz : s.size ≤ 1000000) (hv : validA a = true) (hq : 0 ≤ q ∧ q < a.next.length) (hw : within s a.al = true) : Ret Try.prog 67 #[Value.agg #[Value.int .i64 a.al, nx, ac], Value.int .i64 q, Value.string s] w0 (fun v w => v = .int .i64 (runTo a q s s.size) ∧ Ext w0 w) := by
  have E := Ext.refl w0
  refine Ret.of (args := [Value.agg #[Value.int .i64 a.al, nx, ac], Value.int .i64 q, Value.string s]) Try.func67 rfl rfl rfl ?_
  rintro _ rfl
  show Cq _ _ _ _ [(0, Value.agg #[Value.int .i64 a.al, nx, ac]), (1, Value.int .i64 q), (2, Value.string s)] _
  refine Cq.seq ?_
  refine Cq.region ?_
  refine Sq.box .plain rfl rfl (fun b1 w2 e3 hB4 hlo5 => ?_)
  have hd6 := Nat.le_trans (Below.size E) hlo5
  have hs7 := Below.size e3
  replace E := E.trans e3
  refine Sq.assign .plain rfl rfl ?_
  refine Sq.nil ?_
  refine Eq.next ?_
  refine Cq.seq ?_
  refine Cq.seq ?_
  refine Cq.region ?_
  refine Sq.assign .plain rfl rfl ?_
  refine Sq.nil ?_
  refine Eq.next ?_
  refine Cq.block ?_
  refine Cq.loop (fun nn w ls => ∃ (k : Int), ∃ (p : Int), ls = [(1, Value.int .i64 p), (2, Value.string s), (3, Value.pointer (some ⟨b1, 0, none⟩)), (7, Value.int .i64 k)] ∧ (0 ≤ k ∧ k ≤ s.size) ∧ p = runTo a q s k.toNat ∧ Ext w0 w ∧ Blk w b1 26 [Value.int .i64 a.al, nx, ac] ∧ nn = ((s.size : Int) - k).toNat) _ _ ⟨0, q, rfl, by omega, rfl, E, hB4, rfl⟩ (.cons rfl (.cons rfl (.cons rfl (.cons rfl (.nil))))) ?_
  rintro nn wl1 ls ⟨k, p, rfl, hk, hp, E, hB4, rfl⟩
  have hs8 := Below.size E
  have hqi := runTo_in hv hw hq k.toNat
  rw [← hp] at hqi
  have hwa := within_at hw (k := k.toNat)
  refine Cq.seq ?_
  refine Cq.seq ?_
  refine Cq.region ?_
  refine Sq.move .plain rfl rfl ?_
  refine Sq.move .plain rfl rfl ?_
  refine Sq.lenStr .plain rfl und9 rfl ?_
  refine Sq.lss .plain rfl rfl rfl ?_
  refine Sq.part (fun c9 => ?_) (fun c9 => ?_)
  · refine Sq.nil ?_
    refine Eq.next ?_
    refine Cq.thn rfl ?_
    refine Cq.skip ?_
    refine Eq.next ?_
    refine Cq.seq ?_
    refine Cq.block ?_
    refine Cq.drawS 6 (fun w' => Blk w' b1 26 [Value.int .i64 a.al, nx, ac]) mixed (hB4) (fun w10 e11 hS => ?_)
    clear hS
    have hs12 := Below.size e11
    replace E := E.trans e11
    replace hB4 := hB4.ext e11
    have E_w10 := E
    have hB4_w10 := hB4
    refine Gq.st 0 rfl (by kernel_rfl) rfl .plain rfl (fun _ _ _ h => h) hB4 (fun w' x => Still.loadAgg agg26 rfl x rfl) ?_
    refine Gq.st 1 rfl (by kernel_rfl) rfl .plain rfl (fun _ _ _ h => h) hB4 (fun w' x => Still.move rfl) ?_
    refine Gq.st 2 rfl (by kernel_rfl) rfl .plain rfl (fun _ _ _ h => h) hB4 (fun w' x => Still.move rfl) ?_
    refine Gq.st 3 rfl (by kernel_rfl) rfl .plain rfl (fun _ _ _ h => h) hB4 (fun w' x => Still.move rfl) ?_
    refine Gq.one 4 rfl (by kernel_rfl) ?_
    refine Sq.call fn82 .plain rfl rfl (l1At_c s k (by omega) _) ?_
    rintro _ _ ⟨rfl, rfl⟩
    refine Sq.nil ?_
    refine Eq.goes (fun _ => hB4) ?_
    refine Gq.one 5 rfl (by kernel_rfl) ?_
    have hd16 := hB4.lt
    refine Sq.call fn58 .plain rfl rfl (l3Go_c _ a _ _ (hnx.ext E) (hac.ext E) hv p (((lts s).getD k.toNat 0)) (by omega) (by have := hwa (by omega); omega)) ?_
    rintro _ w14 ⟨rfl, e15⟩
    have hs17 := Below.size E
    have hs18 := Below.size e15
    replace E := E.trans e15
    replace hB4 := hB4.ext e15
    refine Sq.nil ?_
    refine Eq.goes (fun _ => hB4) ?_
    refine Gq.one 6 rfl (by kernel_rfl) ?_
    refine Sq.assign .plain rfl rfl ?_
    refine Sq.nil ?_
    refine Eq.goes (fun h => absurd h (by decide)) ?_
    refine Gq.done (by kernel_rfl) ?_
    refine Eq.end ?_
    refine Eq.next ?_
    refine Cq.region ?_
    refine Sq.move .plain rfl rfl ?_
    refine Sq.add .plain rfl rfl rfl (by omega) ?_
    refine Sq.assign .plain rfl rfl ?_
    refine Sq.nil ?_
    have e1 := toNat_succ hk.1
    refine Eq.round _ _ ⟨k + 1, _, rfl, by omega, by rw [e1, runTo_succ (by omega), ← hp], E, hB4, rfl⟩ (by omega) (.cons rfl (.cons rfl (.cons rfl (.cons rfl (.nil)))))
  · refine Sq.nil ?_
    refine Eq.next ?_
    refine Cq.els rfl ?_
    refine Cq.exit ?_
    refine Eq.past ?_
    refine Eq.past ?_
    refine Eq.hit ?_
    refine Eq.next ?_
    refine Cq.seq ?_
    refine Cq.region ?_
    refine Sq.move .plain rfl rfl ?_
    refine Sq.assign .plain rfl rfl ?_
    refine Sq.nil ?_
    refine Eq.next ?_
    refine Cq.ret ?_
    refine Eq.ret1 rfl rfl ?_
    exact ⟨by rw [hp, show k.toNat = s.size by omega], E⟩

set_option maxRecDepth 100000 in
theorem sAfter_c (w0 : World) (a : A) (nx ac : Value) (hnx : Rows w0 47 3 nx a.next) (hac : Bools w0 4 ac a.acc) (s : ByteArray) (hsz : s.size ≤ 1000000) : Ret Try.prog 32 #[Value.agg #[Value.int .i64 a.al, nx, ac], Value.string s] w0 (fun v w => v = .int .i64 (after a s) ∧ Ext w0 w) := by
  have E := Ext.refl w0
  refine Ret.of (args := [Value.agg #[Value.int .i64 a.al, nx, ac], Value.string s]) Try.func32 rfl rfl rfl ?_
  rintro _ rfl
  show Cq _ _ _ _ [(0, Value.agg #[Value.int .i64 a.al, nx, ac]), (1, Value.string s)] _
  refine Cq.seq ?_
  refine Cq.region ?_
  refine Sq.box .plain rfl rfl (fun b1 w2 e3 hB4 hlo5 => ?_)
  have hd6 := Nat.le_trans (Below.size E) hlo5
  have hs7 := Below.size e3
  replace E := E.trans e3
  refine Sq.assign .plain rfl rfl ?_
  refine Sq.nil ?_
  refine Eq.next ?_
  refine Cq.seq ?_
  refine Cq.seq ?_
  refine Cq.region ?_
  refine Sq.loadAgg agg26 .plain rfl rfl hB4 rfl ?_
  have hd11 := hB4.lt
  refine Sq.call fn44 .plain rfl rfl (sValid_c _ a _ _ (hnx.ext E) (hac.ext E)) ?_
  rintro _ w9 ⟨rfl, e10⟩
  have hs12 := Below.size E
  have hs13 := Below.size e10
  replace E := E.trans e10
  replace hB4 := hB4.ext e10
  refine Sq.partB (fun hv => ?_) (fun hv => ?_)
  · refine Sq.notT .plain rfl rfl ?_
    refine Sq.move .plain rfl rfl ?_
    refine Sq.move (.met rfl rfl rfl) rfl rfl ?_
    refine Sq.fieldAddr fld26_0 (.met rfl rfl rfl) rfl rfl ?_
    refine Sq.loadB one3 (.met rfl rfl rfl) rfl rfl hB4 rfl ?_
    refine Sq.call fn66 (.met rfl rfl rfl) rfl rfl (sWithin_c s (by omega) a.al _) ?_
    rintro _ _ ⟨rfl, rfl⟩
    refine Sq.partB (fun hw => ?_) (fun hw => ?_)
    · refine Sq.notT (.met rfl rfl rfl) rfl rfl ?_
      refine Sq.pickF .plain rfl rfl rfl ?_
      refine Sq.nil ?_
      refine Eq.next ?_
      refine Cq.els rfl ?_
      refine Cq.skip ?_
      refine Eq.next ?_
      refine Cq.seq ?_
      refine Cq.region ?_
      have hn1 := (validA_spec.1 hv).2.1
      refine Sq.loadAgg agg26 .plain rfl rfl hB4 rfl ?_
      refine Sq.move .plain rfl rfl ?_
      have hd17 := hB4.lt
      refine Sq.call fn67 .plain rfl rfl (l3Run_c _ a _ _ (hnx.ext E) (hac.ext E) 0 s (by omega) hv (by omega) hw) ?_
      rintro _ w15 ⟨rfl, e16⟩
      have hs18 := Below.size E
      have hs19 := Below.size e16
      replace E := E.trans e16
      replace hB4 := hB4.ext e16
      refine Sq.assign .plain rfl rfl ?_
      refine Sq.nil ?_
      refine Eq.next ?_
      refine Cq.ret ?_
      refine Eq.ret1 rfl rfl ?_
      exact ⟨by rw [after_good hv hw rfl], E⟩
    · refine Sq.notF (.met rfl rfl rfl) rfl rfl ?_
      refine Sq.pickF .plain rfl rfl rfl ?_
      refine Sq.nil ?_
      refine Eq.next ?_
      refine Cq.thn rfl ?_
      refine Cq.seq ?_
      refine Cq.region ?_
      refine Sq.assign .plain rfl rfl ?_
      refine Sq.nil ?_
      refine Eq.next ?_
      refine Cq.ret ?_
      refine Eq.pastRet ?_
      refine Eq.ret1 rfl rfl ?_
      exact ⟨by rw [after_bad (by rintro ⟨h1, h2⟩; first | (rw [hv] at h1; exact absurd h1 (by decide)) | (rw [hw] at h2; exact absurd h2 (by decide)))], E⟩
  · refine Sq.notF .plain rfl rfl ?_
    refine Sq.move .plain rfl rfl ?_
    refine Sq.off rfl rfl rfl rfl rfl rfl ?_
    refine Sq.off rfl rfl rfl rfl rfl rfl ?_
    refine Sq.off rfl rfl rfl rfl rfl rfl ?_
    refine Sq.off rfl rfl rfl rfl rfl rfl ?_
    refine Sq.off rfl rfl rfl rfl rfl rfl ?_
    refine Sq.pickT .plain rfl rfl rfl ?_
    refine Sq.nil ?_
    refine Eq.next ?_
    refine Cq.thn rfl ?_
    refine Cq.seq ?_
    refine Cq.region ?_
    refine Sq.assign .plain rfl rfl ?_
    refine Sq.nil ?_
    refine Eq.next ?_
    refine Cq.ret ?_
    refine Eq.pastRet ?_
    refine Eq.ret1 rfl rfl ?_
    exact ⟨by rw [after_bad (by rintro ⟨h1, h2⟩; first | (rw [hv] at h1; exact absurd h1 (by decide)) | (rw [hw] at h2; exact absurd h2 (by decide)))], E⟩

set_option maxRecDepth 100000 in
theorem sAccepts_c (w0 : World) (a : A) (nx ac : Value) (hnx : Rows w0 47 3 nx a.next) (hac : Bools w0 4 ac a.acc) (s : ByteArray) (hsz : s.size ≤ 1000000) : Ret Try.prog 36 #[Value.agg #[Value.int .i64 a.al, nx, ac], Value.string s] w0 (fun v w => v = .bool (accepts a s) ∧ Ext w0 w) := by
  have E := Ext.refl w0
  refine Ret.of (args := [Value.agg #[Value.int .i64 a.al, nx, ac], Value.string s]) Try.func36 rfl rfl rfl ?_
  rintro _ rfl
  show Cq _ _ _ _ [(0, Value.agg #[Value.int .i64 a.al, nx, ac]), (1, Value.string s)] _
  refine Cq.seq ?_
  refine Cq.region ?_
  refine Sq.box .plain rfl rfl (fun b1 w2 e3 hB4 hlo5 => ?_)
  have hd6 := Nat.le_trans (Below.size E) hlo5
  have hs7 := Below.size e3
  replace E := E.trans e3
  refine Sq.assign .plain rfl rfl ?_
  refine Sq.nil ?_
  refine Eq.next ?_
  refine Cq.seq ?_
  refine Cq.region ?_
  refine Sq.loadAgg agg26 .plain rfl rfl hB4 rfl ?_
  refine Sq.move .plain rfl rfl ?_
  have hd11 := hB4.lt
  refine Sq.call fn32 .plain rfl rfl (sAfter_c _ a _ _ (hnx.ext E) (hac.ext E) s (by omega)) ?_
  rintro _ w9 ⟨rfl, e10⟩
  have hs12 := Below.size E
  have hs13 := Below.size e10
  replace E := E.trans e10
  replace hB4 := hB4.ext e10
  refine Sq.assign .plain rfl rfl ?_
  refine Sq.nil ?_
  refine Eq.next ?_
  refine Cq.seq ?_
  refine Cq.region ?_
  refine Sq.move .plain rfl rfl ?_
  refine Sq.geq .plain rfl rfl rfl ?_
  refine Sq.part (fun hge => ?_) (fun hge => ?_)
  · refine Sq.move .plain rfl rfl ?_
    refine Sq.fieldAddr fld26_2 (.met rfl rfl rfl) rfl rfl ?_
    refine Sq.loadB one24 (.met rfl rfl rfl) rfl rfl hB4 rfl ?_
    refine Sq.move (.met rfl rfl rfl) rfl rfl ?_
    refine Sq.idxBools sl24 one4 (hac.ext E) (.met rfl rfl rfl) rfl rfl rfl (.met rfl rfl rfl) rfl rfl (by first | omega | exact after_lt hge) (by first | omega | exact after_lt hge) ?_
    refine Sq.pickT .plain rfl rfl rfl ?_
    refine Sq.assign .plain rfl rfl ?_
    refine Sq.nil ?_
    refine Eq.next ?_
    refine Cq.ret ?_
    refine Eq.ret1 rfl rfl ?_
    exact ⟨by rw [accepts_T hge], E⟩
  · refine Sq.move .plain rfl rfl ?_
    refine Sq.off rfl rfl rfl rfl rfl rfl ?_
    refine Sq.off rfl rfl rfl rfl rfl rfl ?_
    refine Sq.off rfl rfl rfl rfl rfl rfl ?_
    refine Sq.off rfl rfl rfl rfl rfl rfl ?_
    refine Sq.off rfl rfl rfl rfl rfl rfl ?_
    refine Sq.pickF .plain rfl rfl rfl ?_
    refine Sq.assign .plain rfl rfl ?_
    refine Sq.nil ?_
    refine Eq.next ?_
    refine Cq.ret ?_
    refine Eq.ret1 rfl rfl ?_
    exact ⟨by rw [accepts_F (by omega)], E⟩

end Go.Proofs.Ytmlhgkfbiapakaa
