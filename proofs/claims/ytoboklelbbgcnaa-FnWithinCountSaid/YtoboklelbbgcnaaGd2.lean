/-
  The texts of this proof, joined (wip/merge.py): the calculus of slots, plain mathematics, walks.
-/
import Derived.Test.YtoboklelbbgcnaaGd1
set_option linter.unusedSimpArgs false
set_option linter.unusedVariables false
namespace Go.Proofs.Ytoboklelbbgcnaa
open Go.RowKit
set_option maxRecDepth 100000 in
theorem letterAt_c (s : ByteArray) (i : Int) (hi : 0 ≤ i ∧ i < s.size) (w0 : World) : Ret Try.prog 97 #[Value.string s, Value.int .i64 i] w0 (fun v w => v = .int .i64 (clip ((lts s).getD i.toNat 0)) ∧ w0 = w) := by
  refine Ret.of (args := [Value.string s, Value.int .i64 i]) Try.func97 rfl rfl rfl ?_
  rintro _ rfl
  show Cq _ _ _ _ [(0, Value.string s), (1, Value.int .i64 i)] _
  refine Cq.seq ?_
  refine Cq.region ?_
  refine Sq.assign .plain rfl rfl ?_
  refine Sq.nil ?_
  refine Eq.next ?_
  refine Cq.seq ?_
  refine Cq.region ?_
  refine Sq.move .plain rfl rfl ?_
  refine Sq.move .plain rfl rfl ?_
  refine Sq.idxStr .plain rfl und9 rfl rfl (by omega) (str_at (by omega)) ?_
  refine Sq.conv conv5_3 .plain rfl rfl (u8_ok _) ?_
  refine Sq.sub .plain rfl rfl rfl (by have := u8_le (s.data.toList.getD i.toNat 0); omega) ?_
  refine Sq.assign .plain rfl rfl ?_
  refine Sq.nil ?_
  refine Eq.next ?_
  refine Cq.seq ?_
  refine Cq.seq ?_
  refine Cq.region ?_
  refine Sq.move .plain rfl rfl ?_
  refine Sq.lss .plain rfl rfl rfl ?_
  refine Sq.part (fun c2 => ?_) (fun c2 => ?_)
  · refine Sq.move .plain rfl rfl ?_
    refine Sq.off rfl rfl rfl rfl rfl rfl ?_
    refine Sq.off rfl rfl rfl rfl rfl rfl ?_
    refine Sq.pickT .plain rfl rfl rfl ?_
    refine Sq.nil ?_
    refine Eq.next ?_
    refine Cq.thn rfl ?_
    refine Cq.seq ?_
    refine Cq.region ?_
    refine Sq.assign .plain rfl rfl ?_
    refine Sq.nil ?_
    refine Eq.next ?_
    refine Cq.ret ?_
    refine Eq.pastRet ?_
    refine Eq.ret1 rfl rfl ?_
    exact ⟨by rw [lts_at (by omega)]; first | rw [clip_in (by omega)] | rw [clip_out (by omega)], rfl⟩
  refine Sq.move .plain rfl rfl ?_
  refine Sq.move (.met rfl rfl rfl) rfl rfl ?_
  refine Sq.geq (.met rfl rfl rfl) rfl rfl rfl ?_
  refine Sq.part (fun c3 => ?_) (fun c3 => ?_)
  · refine Sq.pickF .plain rfl rfl rfl ?_
    refine Sq.nil ?_
    refine Eq.next ?_
    refine Cq.thn rfl ?_
    refine Cq.seq ?_
    refine Cq.region ?_
    refine Sq.assign .plain rfl rfl ?_
    refine Sq.nil ?_
    refine Eq.next ?_
    refine Cq.ret ?_
    refine Eq.pastRet ?_
    refine Eq.ret1 rfl rfl ?_
    exact ⟨by rw [lts_at (by omega)]; first | rw [clip_in (by omega)] | rw [clip_out (by omega)], rfl⟩
  refine Sq.pickF .plain rfl rfl rfl ?_
  refine Sq.nil ?_
  refine Eq.next ?_
  refine Cq.els rfl ?_
  refine Cq.skip ?_
  refine Eq.next ?_
  refine Cq.seq ?_
  refine Cq.region ?_
  refine Sq.move .plain rfl rfl ?_
  refine Sq.assign .plain rfl rfl ?_
  refine Sq.nil ?_
  refine Eq.next ?_
  refine Cq.ret ?_
  refine Eq.ret1 rfl rfl ?_
  exact ⟨by rw [lts_at (by omega)]; first | rw [clip_in (by omega)] | rw [clip_out (by omega)], rfl⟩
set_option maxRecDepth 100000 in
theorem within_c (s : ByteArray) (al : Int) (w0 : World) : Ret Try.prog 90 #[Value.string s, Value.int .i64 al] w0 (fun v w => v = .bool (within s al) ∧ w0 = w) := by
  refine Ret.of (args := [Value.string s, Value.int .i64 al]) Try.func90 rfl rfl rfl ?_
  rintro _ rfl
  show Cq _ _ _ _ [(0, Value.string s), (1, Value.int .i64 al)] _
  refine Cq.seq ?_
  refine Cq.region ?_
  refine Sq.assign .plain rfl rfl ?_
  refine Sq.nil ?_
  refine Eq.next ?_
  refine Cq.seq ?_
  refine Cq.seq ?_
  refine Cq.region ?_
  refine Sq.move .plain rfl rfl ?_
  refine Sq.call fn42 .plain rfl rfl (isAlphabet_c _ _) ?_
  rintro _ _ ⟨rfl, rfl⟩
  refine Sq.part (fun hal => ?_) (fun hal => ?_)
  · refine Sq.notT .plain rfl rfl ?_
    refine Sq.move .plain rfl rfl ?_
    refine Sq.move (.met rfl rfl rfl) rfl rfl ?_
    refine Sq.lenStr (.met rfl rfl rfl) rfl und9 rfl ?_
    refine Sq.gtr (.met rfl rfl rfl) rfl rfl rfl ?_
    refine Sq.part (fun c1 => ?_) (fun c1 => ?_)
    · refine Sq.pickF .plain rfl rfl rfl ?_
      refine Sq.nil ?_
      refine Eq.next ?_
      refine Cq.thn rfl ?_
      refine Cq.seq ?_
      refine Cq.region ?_
      refine Sq.assign .plain rfl rfl ?_
      refine Sq.nil ?_
      refine Eq.next ?_
      refine Cq.ret ?_
      refine Eq.pastRet ?_
      refine Eq.ret1 rfl rfl ?_
      exact ⟨by first | rw [within_al (by omega)] | rw [within_size (by omega)] | rw [within_bad (k := k.toNat) (by omega) (by rw [← hs_clip hal]; exact hb)] | rw [within_good (k := k.toNat) hal (by omega) hp (by omega)], rfl⟩
    refine Sq.pickF .plain rfl rfl rfl ?_
    refine Sq.nil ?_
    refine Eq.next ?_
    refine Cq.els rfl ?_
    refine Cq.skip ?_
    refine Eq.next ?_
    refine Cq.seq ?_
    refine Cq.seq ?_
    refine Cq.region ?_
    refine Sq.move .plain rfl rfl ?_
    refine Sq.lenStr .plain rfl und9 rfl ?_
    refine Sq.move .plain rfl rfl ?_
    refine Sq.nil ?_
    refine Eq.next ?_
    refine Cq.block ?_
    refine Cq.loop (fun nn w ls => ∃ (k : Int), ls = [(0, Value.string s), (1, Value.int .i64 al), (15, Value.int .i64 (ByteArray.size s : Int)), (16, Value.int .i64 k)] ∧ w0 = w ∧ (0 ≤ k ∧ k ≤ s.size) ∧ ((lts s).take k.toNat).all (hs al) = true ∧ nn = ((s.size : Int) - k).toNat) _ _ ⟨0, rfl, rfl, by omega, rfl, rfl⟩ (.cons rfl (.cons rfl (.cons rfl (.cons rfl (.nil))))) ?_
    rintro n1 w ls' ⟨k, rfl, rfl, hk, hp, rfl⟩
    have hll := lts_length s
    refine Cq.seq ?_
    refine Cq.region ?_
    refine Sq.lss .plain rfl rfl rfl ?_
    refine Sq.part (fun c2 => ?_) (fun c2 => ?_)
    · refine Sq.nil ?_
      refine Eq.next ?_
      refine Cq.seq ?_
      refine Cq.thn rfl ?_
      refine Cq.skip ?_
      refine Eq.next ?_
      refine Cq.seq ?_
      refine Cq.block ?_
      refine Cq.seq ?_
      refine Cq.region ?_
      refine Sq.move .plain rfl rfl ?_
      refine Sq.assign .plain rfl rfl ?_
      refine Sq.nil ?_
      refine Eq.next ?_
      refine Cq.seq ?_
      refine Cq.region ?_
      refine Sq.move .plain rfl rfl ?_
      refine Sq.move .plain rfl rfl ?_
      refine Sq.move .plain rfl rfl ?_
      refine Sq.call fn97 .plain rfl rfl (letterAt_c s k (by omega) _) ?_
      rintro _ _ ⟨rfl, rfl⟩
      refine Sq.call fn73 .plain rfl rfl (has_c _ _ (by omega) _) ?_
      rintro _ _ ⟨rfl, rfl⟩
      refine Sq.partB (fun hb => ?_) (fun hb => ?_)
      · refine Sq.notT .plain rfl rfl ?_
        refine Sq.nil ?_
        refine Eq.next ?_
        refine Cq.els rfl ?_
        refine Cq.skip ?_
        refine Eq.end ?_
        refine Eq.next ?_
        refine Cq.region ?_
        refine Sq.add .plain rfl rfl rfl (by omega) ?_
        refine Sq.move .plain rfl rfl ?_
        refine Sq.nil ?_
        have e1 := toNat_succ hk.1
        refine Eq.round _ _ ⟨k + 1, rfl, rfl, by omega, by rw [e1]; exact all_snoc (d := 0) hp (by omega) (by rw [← hs_clip hal]; exact hb), rfl⟩ (by omega) (.cons rfl (.cons rfl (.cons rfl (.cons rfl (.nil)))))
      refine Sq.notF .plain rfl rfl ?_
      refine Sq.nil ?_
      refine Eq.next ?_
      refine Cq.thn rfl ?_
      refine Cq.seq ?_
      refine Cq.region ?_
      refine Sq.assign .plain rfl rfl ?_
      refine Sq.nil ?_
      refine Eq.next ?_
      refine Cq.ret ?_
      refine Eq.outRet ?_
      refine Eq.pastRet ?_
      refine Eq.pastRet ?_
      refine Eq.outRet ?_
      refine Eq.pastRet ?_
      refine Eq.ret1 rfl rfl ?_
      exact ⟨by first | rw [within_al (by omega)] | rw [within_size (by omega)] | rw [within_bad (k := k.toNat) (by omega) (by rw [← hs_clip hal]; exact hb)] | rw [within_good (k := k.toNat) hal (by omega) hp (by omega)], rfl⟩
    refine Sq.nil ?_
    refine Eq.next ?_
    refine Cq.seq ?_
    refine Cq.els rfl ?_
    refine Cq.exit ?_
    refine Eq.past ?_
    refine Eq.past ?_
    refine Eq.hit ?_
    refine Eq.next ?_
    refine Cq.seq ?_
    refine Cq.region ?_
    refine Sq.assign .plain rfl rfl ?_
    refine Sq.nil ?_
    refine Eq.next ?_
    refine Cq.ret ?_
    refine Eq.ret1 rfl rfl ?_
    exact ⟨by first | rw [within_al (by omega)] | rw [within_size (by omega)] | rw [within_bad (k := k.toNat) (by omega) (by rw [← hs_clip hal]; exact hb)] | rw [within_good (k := k.toNat) hal (by omega) hp (by omega)], rfl⟩
  refine Sq.notF .plain rfl rfl ?_
  refine Sq.move .plain rfl rfl ?_
  refine Sq.off rfl rfl rfl rfl rfl rfl ?_
  refine Sq.off rfl rfl rfl rfl rfl rfl ?_
  refine Sq.off rfl rfl rfl rfl rfl rfl ?_
  refine Sq.pickT .plain rfl rfl rfl ?_
  refine Sq.nil ?_
  refine Eq.next ?_
  refine Cq.thn rfl ?_
  refine Cq.seq ?_
  refine Cq.region ?_
  refine Sq.assign .plain rfl rfl ?_
  refine Sq.nil ?_
  refine Eq.next ?_
  refine Cq.ret ?_
  refine Eq.pastRet ?_
  refine Eq.ret1 rfl rfl ?_
  exact ⟨by first | rw [within_al (by omega)] | rw [within_size (by omega)] | rw [within_bad (k := k.toNat) (by omega) (by rw [← hs_clip hal]; exact hb)] | rw [within_good (k := k.toNat) hal (by omega) hp (by omega)], rfl⟩
set_option maxRecDepth 100000 in
theorem after_c (w0 : World) (a : A) (nx ac : Value) (hnx : Rows w0 55 3 nx a.next) (hac : Bools w0 4 ac a.acc) (s : ByteArray) (hsz : s.size ≤ 1000000) : Ret Try.prog 62 #[Value.agg #[Value.int .i64 a.al, nx, ac], Value.string s] w0 (fun v w => v = .int .i64 (after a s) ∧ Ext w0 w) := by
  have E := Ext.refl w0
  refine Ret.of (args := [Value.agg #[Value.int .i64 a.al, nx, ac], Value.string s]) Try.func62 rfl rfl rfl ?_
  rintro _ rfl
  show Cq _ _ _ _ [(0, Value.agg #[Value.int .i64 a.al, nx, ac]), (1, Value.string s)] _
  refine Cq.seq ?_
  refine Cq.region ?_
  refine Sq.box .plain rfl rfl (fun b1 w2 e3 hB4 hlo5 => ?_)
  have hd6 := Nat.le_trans (Below.size E) hlo5
  have hs7 := Below.size e3
  replace E := E.trans e3
  refine Sq.assign .plain rfl rfl ?_
  refine Sq.nil ?_
  refine Eq.next ?_
  refine Cq.seq ?_
  refine Cq.seq ?_
  refine Cq.region ?_
  refine Sq.loadAgg agg26 .plain rfl rfl hB4 rfl ?_
  have hd11 := hB4.lt
  refine Sq.call fn18 .plain rfl rfl (valid_c _ a _ _ (hnx.ext E) (hac.ext E)) ?_
  rintro _ w9 ⟨rfl, e10⟩
  have hs12 := Below.size E
  have hs13 := Below.size e10
  replace E := E.trans e10
  replace hB4 := hB4.ext e10
  refine Sq.partB (fun hv => ?_) (fun hv => ?_)
  · refine Sq.notT .plain rfl rfl ?_
    refine Sq.move .plain rfl rfl ?_
    refine Sq.move (.met rfl rfl rfl) rfl rfl ?_
    refine Sq.fieldAddr fld26_0 (.met rfl rfl rfl) rfl rfl ?_
    refine Sq.loadB one3 (.met rfl rfl rfl) rfl rfl hB4 rfl ?_
    refine Sq.call fn90 (.met rfl rfl rfl) rfl rfl (within_c s a.al _) ?_
    rintro _ _ ⟨rfl, rfl⟩
    refine Sq.partB (fun hw => ?_) (fun hw => ?_)
    · refine Sq.notT (.met rfl rfl rfl) rfl rfl ?_
      refine Sq.pickF .plain rfl rfl rfl ?_
      refine Sq.nil ?_
      refine Eq.next ?_
      refine Cq.els rfl ?_
      refine Cq.skip ?_
      refine Eq.next ?_
      refine Cq.seq ?_
      refine Cq.region ?_
      refine Sq.loadAgg agg26 .plain rfl rfl hB4 rfl ?_
      have hd22 := hB4.lt
      refine Sq.call fn43 .plain rfl rfl (tableOf_c _ a _ _ (hnx.ext E) (hac.ext E) hv) ?_
      rintro _ w15 ⟨⟨b17, xs18, rfl, hlo19, hT20, hTab21⟩, e16⟩
      have hs23 := Below.size E
      have hs24 := Below.size e16
      replace E := E.trans e16
      refine Sq.assign .plain rfl rfl ?_
      refine Sq.nil ?_
      refine Eq.next ?_
      refine Cq.seq ?_
      refine Cq.region ?_
      refine Sq.assign .plain rfl rfl ?_
      refine Sq.nil ?_
      refine Eq.next ?_
      refine Cq.seq ?_
      refine Cq.seq ?_
      refine Cq.region ?_
      refine Sq.move .plain rfl rfl ?_
      refine Sq.lenStr .plain rfl und9 rfl ?_
      refine Sq.move .plain rfl rfl ?_
      refine Sq.nil ?_
      refine Eq.next ?_
      refine Cq.block ?_
      have hn1 := (validA_spec.1 hv).2.1
      refine Cq.loop (fun nn w ls => ∃ (k : Int), ∃ (q : Int), ls = [(1, Value.string s), (5, Value.slice (some ⟨b17, 0, none⟩) a.next.length a.next.length), (6, Value.int .i64 q), (21, Value.int .i64 (ByteArray.size s : Int)), (22, Value.int .i64 k)] ∧ (0 ≤ k ∧ k ≤ s.size) ∧ q = runTo a 0 s k.toNat ∧ Ext w0 w ∧ Blk w b17 57 (xs18.map (Value.int .i64)) ∧ nn = ((s.size : Int) - k).toNat) _ _ ⟨0, 0, rfl, by omega, rfl, E, hT20, rfl⟩ (.cons rfl (.cons rfl (.cons rfl (.cons rfl (.cons rfl (.nil)))))) ?_
      rintro nn wl1 ls ⟨k, q, rfl, hk, hq, E, hT20, rfl⟩
      have hs25 := Below.size E
      have hqi := runTo_in hv hw (q := 0) (by omega) k.toNat
      rw [← hq] at hqi
      have hwa := within_at hw (k := k.toNat)
      refine Cq.seq ?_
      refine Cq.region ?_
      refine Sq.lss .plain rfl rfl rfl ?_
      refine Sq.part (fun c26 => ?_) (fun c26 => ?_)
      · refine Sq.nil ?_
        refine Eq.next ?_
        refine Cq.seq ?_
        refine Cq.thn rfl ?_
        refine Cq.skip ?_
        refine Eq.next ?_
        refine Cq.seq ?_
        refine Cq.block ?_
        refine Cq.seq ?_
        refine Cq.region ?_
        refine Sq.move .plain rfl rfl ?_
        refine Sq.assign .plain rfl rfl ?_
        refine Sq.nil ?_
        refine Eq.next ?_
        refine Cq.drawS 8 (fun w' => Blk w' b17 57 (xs18.map (Value.int .i64))) mixed (hT20) (fun w27 e28 hS => ?_)
        clear hS
        have hs29 := Below.size e28
        replace E := E.trans e28
        replace hT20 := hT20.ext e28
        refine Gq.st 0 rfl (by kernel_rfl) rfl .plain rfl (fun _ _ _ h => h) hT20 (fun w' x => Still.move rfl) ?_
        refine Gq.st 1 rfl (by kernel_rfl) rfl .plain rfl (fun _ _ _ h => h) hT20 (fun w' x => Still.move rfl) ?_
        refine Gq.st 2 rfl (by kernel_rfl) rfl .plain rfl (fun _ _ _ h => h) hT20 (fun w' x => Still.move rfl) ?_
        refine Gq.st 3 rfl (by kernel_rfl) rfl .plain rfl (fun _ _ _ h => h) hT20 (fun w' x => Still.move rfl) ?_
        refine Gq.st 5 rfl (by kernel_rfl) rfl .plain rfl (fun _ _ _ h => h) hT20 (fun w' x => Still.ixS slk52 rfl rfl (by omega) (by omega)) ?_
        refine Gq.one 4 rfl (by kernel_rfl) ?_
        refine Sq.call fn97 .plain rfl rfl (letterAt_c s k (by omega) _) ?_
        rintro _ _ ⟨rfl, rfl⟩
        refine Sq.nil ?_
        refine Eq.goes (fun _ => hT20) ?_
        refine Gq.st 6 rfl (by kernel_rfl) rfl .plain rfl (fun _ _ _ h => h) hT20 (fun w' x => Still.ixA ar57 rfl rfl (by have := hwa (by omega); omega) (by have := hwa (by omega); omega)) ?_
        refine Gq.st 7 rfl (by kernel_rfl) rfl .plain rfl (fun _ _ _ h => h) hT20 (fun w' x => Still.loadB one3 rfl x (by rw [Nat.zero_add, List.getElem?_map, hTab21.2 q ((clip ((lts s).getD k.toNat 0))) (by omega) (by have := hwa (by omega); omega)]; rfl)) ?_
        refine Gq.one 8 rfl (by kernel_rfl) ?_
        refine Sq.assign .plain rfl rfl ?_
        refine Sq.nil ?_
        refine Eq.goes (fun h => absurd h (by decide)) ?_
        refine Gq.done (by kernel_rfl) ?_
        refine Eq.end ?_
        refine Eq.next ?_
        refine Cq.region ?_
        refine Sq.add .plain rfl rfl rfl (by omega) ?_
        refine Sq.move .plain rfl rfl ?_
        refine Sq.nil ?_
        have e1 := toNat_succ hk.1
        refine Eq.round _ _ ⟨k + 1, _, rfl, by omega, by rw [e1, runTo_succ (by omega), ← hq, (hwa (by omega)).1], E, hT20, rfl⟩ (by omega) (.cons rfl (.cons rfl (.cons rfl (.cons rfl (.cons rfl (.nil))))))
      refine Sq.nil ?_
      refine Eq.next ?_
      refine Cq.seq ?_
      refine Cq.els rfl ?_
      refine Cq.exit ?_
      refine Eq.past ?_
      refine Eq.past ?_
      refine Eq.hit ?_
      refine Eq.next ?_
      refine Cq.seq ?_
      refine Cq.region ?_
      refine Sq.move .plain rfl rfl ?_
      refine Sq.assign .plain rfl rfl ?_
      refine Sq.nil ?_
      refine Eq.next ?_
      refine Cq.ret ?_
      refine Eq.ret1 rfl rfl ?_
      exact ⟨by rw [after_good hv hw (k := k.toNat) (by omega), ← hq], E⟩
    refine Sq.notF (.met rfl rfl rfl) rfl rfl ?_
    refine Sq.pickF .plain rfl rfl rfl ?_
    refine Sq.nil ?_
    refine Eq.next ?_
    refine Cq.thn rfl ?_
    refine Cq.seq ?_
    refine Cq.region ?_
    refine Sq.assign .plain rfl rfl ?_
    refine Sq.nil ?_
    refine Eq.next ?_
    refine Cq.ret ?_
    refine Eq.pastRet ?_
    refine Eq.ret1 rfl rfl ?_
    exact ⟨by rw [after_bad (by rintro ⟨h1, h2⟩; first | (rw [hv] at h1; exact absurd h1 (by decide)) | (rw [hw] at h2; exact absurd h2 (by decide)))], E⟩
  refine Sq.notF .plain rfl rfl ?_
  refine Sq.move .plain rfl rfl ?_
  refine Sq.off rfl rfl rfl rfl rfl rfl ?_
  refine Sq.off rfl rfl rfl rfl rfl rfl ?_
  refine Sq.off rfl rfl rfl rfl rfl rfl ?_
  refine Sq.off rfl rfl rfl rfl rfl rfl ?_
  refine Sq.off rfl rfl rfl rfl rfl rfl ?_
  refine Sq.pickT .plain rfl rfl rfl ?_
  refine Sq.nil ?_
  refine Eq.next ?_
  refine Cq.thn rfl ?_
  refine Cq.seq ?_
  refine Cq.region ?_
  refine Sq.assign .plain rfl rfl ?_
  refine Sq.nil ?_
  refine Eq.next ?_
  refine Cq.ret ?_
  refine Eq.pastRet ?_
  refine Eq.ret1 rfl rfl ?_
  exact ⟨by rw [after_bad (by rintro ⟨h1, h2⟩; first | (rw [hv] at h1; exact absurd h1 (by decide)) | (rw [hw] at h2; exact absurd h2 (by decide)))], E⟩
set_option maxRecDepth 100000 in
theorem accepts_c (w0 : World) (a : A) (nx ac : Value) (hnx : Rows w0 55 3 nx a.next) (hac : Bools w0 4 ac a.acc) (s : ByteArray) (hsz : s.size ≤ 1000000) : Ret Try.prog 28 #[Value.agg #[Value.int .i64 a.al, nx, ac], Value.string s] w0 (fun v w => v = .bool (accepts a s) ∧ Ext w0 w) := by
  have E := Ext.refl w0
  refine Ret.of (args := [Value.agg #[Value.int .i64 a.al, nx, ac], Value.string s]) Try.func28 rfl rfl rfl ?_
  rintro _ rfl
  show Cq _ _ _ _ [(0, Value.agg #[Value.int .i64 a.al, nx, ac]), (1, Value.string s)] _
  refine Cq.seq ?_
  refine Cq.region ?_
  refine Sq.box .plain rfl rfl (fun b1 w2 e3 hB4 hlo5 => ?_)
  have hd6 := Nat.le_trans (Below.size E) hlo5
  have hs7 := Below.size e3
  replace E := E.trans e3
  refine Sq.assign .plain rfl rfl ?_
  refine Sq.nil ?_
  refine Eq.next ?_
  refine Cq.seq ?_
  refine Cq.region ?_
  refine Sq.loadAgg agg26 .plain rfl rfl hB4 rfl ?_
  refine Sq.move .plain rfl rfl ?_
  have hd11 := hB4.lt
  refine Sq.call fn62 .plain rfl rfl (after_c _ a _ _ (hnx.ext E) (hac.ext E) s (by omega)) ?_
  rintro _ w9 ⟨rfl, e10⟩
  have hs12 := Below.size E
  have hs13 := Below.size e10
  replace E := E.trans e10
  replace hB4 := hB4.ext e10
  refine Sq.assign .plain rfl rfl ?_
  refine Sq.nil ?_
  refine Eq.next ?_
  refine Cq.seq ?_
  refine Cq.region ?_
  refine Sq.move .plain rfl rfl ?_
  refine Sq.geq .plain rfl rfl rfl ?_
  refine Sq.part (fun hge => ?_) (fun hge => ?_)
  · refine Sq.move .plain rfl rfl ?_
    refine Sq.fieldAddr fld26_2 (.met rfl rfl rfl) rfl rfl ?_
    refine Sq.loadB one24 (.met rfl rfl rfl) rfl rfl hB4 rfl ?_
    refine Sq.move (.met rfl rfl rfl) rfl rfl ?_
    refine Sq.idxBools sl24 one4 (hac.ext E) (.met rfl rfl rfl) rfl rfl rfl (.met rfl rfl rfl) rfl rfl (by first | omega | exact after_lt hge) (by first | omega | exact after_lt hge) ?_
    refine Sq.pickT .plain rfl rfl rfl ?_
    refine Sq.assign .plain rfl rfl ?_
    refine Sq.nil ?_
    refine Eq.next ?_
    refine Cq.ret ?_
    refine Eq.ret1 rfl rfl ?_
    exact ⟨by rw [accepts_T hge], E⟩
  refine Sq.move .plain rfl rfl ?_
  refine Sq.off rfl rfl rfl rfl rfl rfl ?_
  refine Sq.off rfl rfl rfl rfl rfl rfl ?_
  refine Sq.off rfl rfl rfl rfl rfl rfl ?_
  refine Sq.off rfl rfl rfl rfl rfl rfl ?_
  refine Sq.off rfl rfl rfl rfl rfl rfl ?_
  refine Sq.pickF .plain rfl rfl rfl ?_
  refine Sq.assign .plain rfl rfl ?_
  refine Sq.nil ?_
  refine Eq.next ?_
  refine Cq.ret ?_
  refine Eq.ret1 rfl rfl ?_
  exact ⟨by rw [accepts_F (by omega)], E⟩
end Go.Proofs.Ytoboklelbbgcnaa
set_option linter.unusedSimpArgs false
set_option linter.unusedVariables false
namespace Go.Proofs.Ytoboklelbbgcnaa
open Go.RowKit
section
variable {P : Program} {N : Nat} {ops : Array Oper} {Q : Exit → Act → World → Prop} {rest : List Oper} {l : Slots} {w : World}
variable {d : Nat} {ty : TypeId} {pos : String} {after : Array Edge} {g : Option (Nat × Bool)}
theorem Still.makeFunc {k : FuncId} {xs : List Operand} {vs : List Value} (hx : evs l xs = some vs) : Still P N l ⟨some d, .makeFunc (.func k) #[] xs.toArray, ty, pos, after, g⟩ (.func (.func k) #[] vs.toArray) w := fun a ha => by
  have : xs.toArray.map a.eval = vs.toArray := by rw [List.map_toArray, ha.evs hx]
  simp [execOp, Instr.makeFunc, this, ha.evs hx]
theorem Sq.makeFunc {k : FuncId} {xs : List Operand} {vs : List Value} (hg : On ops l g) (hN : Nat.blt d N = true) (hx : evs l xs = some vs) (h : Sq P N ops Q rest ((d, .func (.func k) #[] vs.toArray) :: l) w) :
    Sq P N ops Q (⟨some d, .makeFunc (.func k) #[] xs.toArray, ty, pos, after, g⟩ :: rest) l w := .val hg rfl hN (Still.makeFunc hx) h
theorem Sq.callC {f : FuncId} {fn : Func} {x : Operand} {xs : List Operand} {ats : Array TypeId} {vs cs : List Value} {R : Value → World → Prop} (hf : Fn P f fn) (hg : On ops l g) (hN : Nat.blt d N = true)
    (hc : ev l x = some (.func (.func f) #[] cs.toArray)) (hx : evs l xs = some vs) (hr : Ret P f (vs ++ cs).toArray w R) (h : ∀ v w', R v w' → Sq P N ops Q rest ((d, v) :: l) w') :
    Sq P N ops Q (⟨some d, .call ⟨.value x, xs.toArray, ats⟩, ty, pos, after, g⟩ :: rest) l w := by
  intro a ha
  refine wpList_step fun K hK => ?_
  rw [if_pos (hg.wanted ha)]
  unfold Oper.wp
  have e1 : xs.toArray.map a.eval = vs.toArray := by rw [List.map_toArray, ha.evs hx]
  have e : execOp a.eval ⟨some d, .call ⟨.value x, xs.toArray, ats⟩, ty, pos, after, g⟩ = callFunc f (vs ++ cs).toArray := by
    show (do let d ← resolve a.eval ⟨.value x, xs.toArray, ats⟩ ty; invoke d.target d.args) = _
    unfold resolve
    simp only [e1, ha.ev hc, Deferred.ofValue]
    show invoke (.fn (.func f) cs.toArray) (#[] ++ vs.toArray) = _
    simp [invoke]
  rw [e, run_callFunc hf, Oper.upon_enter]
  refine Calls.mono hr fun e w' he => ?_
  obtain ⟨v, rfl, hv⟩ := he
  exact hK _ _ (h v w' hv _ (ha.put hN))
def MapN {κ : Type} (enc : κ → Value) (w : World) (b : Nat) (xs : List κ) : Prop := ∃ es clock, w.heap[b]? = some (.map es clock) ∧ es.toList.map (fun e => (e.key, e.val)) = xs.zipIdx.map fun p => (enc p.1, Value.int .i64 (p.2 : Int))
variable {κ : Type} {enc : κ → Value} {w' : World} {b : Nat} {xs : List κ}
theorem MapN.lt (h : MapN enc w b xs) : b < w.heap.size := by
  obtain ⟨es, c, hb, _⟩ := h
  exact (Array.getElem?_eq_some_iff.1 hb).1
theorem MapN.ext (h : MapN enc w b xs) (x : Ext w w') : MapN enc w' b xs := by
  obtain ⟨es, c, hb, hx⟩ := h
  exact ⟨es, c, x.heap hb, hx⟩
theorem MapN.grown {r : Option Nat} (h : MapN enc w b xs) (hg : w.grownBy w' r) (hr : r ≠ some b) : MapN enc w' b xs := by
  obtain ⟨es, c, hb, hx⟩ := h
  exact ⟨es, c, by rw [hg.block b (Array.getElem?_eq_some_iff.1 hb).1 (fun e => hr e.symm)]; exact hb, hx⟩
theorem MapN.stored {gb : Nat} {t : TypeId} {cs : List Value} (h : MapN enc w b xs) (hg : w.grownBy w' (some gb)) (hb : Blk w gb t cs) : MapN enc w' b xs := by
  refine h.grown hg (fun e => ?_)
  injection e with e
  subst e
  obtain ⟨es, c, hb', _⟩ := h
  simp only [Blk] at hb
  rw [hb] at hb'
  cases hb'
theorem MapN.owned {B : Nat} {t : TypeId} {u : Value} {us : List Value} (h : MapN enc w b xs) (ho : Own w B t u us) (hg : w.grownBy w' u.ownBlock) : MapN enc w' b xs := by
  rcases ho.cases with ⟨rfl, rfl⟩ | ⟨gb, cap, cs, rfl, hg', hb, _⟩
  · exact h.ext (Ext.of_grown hg)
  · exact h.stored (gb := gb) hg hb
structure KeyT [DecidableEq κ] (P : Program) (t : TypeId) (enc : κ → Value) : Prop where
  types : ∃ kt et kd, P.underlying t = some (.map kt et) ∧ P.underlying kt = some kd ∧ (∀ x y, Instr.sameNow kd (enc x) (enc y) = some (decide (x = y))) ∧ (∀ w, (zeroValue et).run P w = .ok (.int .i64 0) w) ∧ ∀ x, MapKept.IsKey kd (enc x)
variable [DecidableEq κ]
def Apart (v u : Value) : Prop := ∀ k, v.ownBlock = some k → u.ownBlock ≠ some k
theorem Apart.symm {v u : Value} (h : Apart v u) : Apart u v := fun k hk hc => h k hc hk
theorem Apart.nil (u : Value) : Apart (.slice none 0 0) u := fun k hk => by cases hk
theorem Own.other {B : Nat} {e : TypeId} {v u : Value} {vs : List Value} (h : Own w B e v vs) (hg : w.grownBy w' u.ownBlock) (ha : Apart u v) : Own w' B e v vs := h.grown hg fun k hk hc => ha k hc hk
theorem fresh_of {B n m size c : Nat} {t e : TypeId} {i : TypeInfo} {z : Value} {v v' : Value} {xs news : List Value} {ad : Addr} {w'' : World} (ht : P.underlying t = some (.slice e)) (hi : P.info? e = some i) (hz : i.zero = some z) (hsize : i.size = size)
    (hown : w.ownsRow B e size v n xs) (hl : news.length = m * size) (hnews : ∀ j u, news[j]? = some u → w.cell? (ad.add j) = some u) (h1 : ∀ u ∈ news, u.oneCell' = true) (h63 : n + m ≤ maxLen) (hbytes : (n + m) * i.bytes ≤ 140737488355328) (hm : 0 < m)
    (hr : (Builtin.append_ #[t, t] ty #[v, .slice (some ad) m c]).run P w = .ok v' w'') : ∀ k, v'.ownBlock = some k → v.ownBlock = some k ∨ w.heap.size ≤ k := by
  subst hsize
  have h63' : n + m ≤ 9223372036854775807 := by simp only [maxLen] at h63; omega
  intro k hk
  rcases hown.2 with ⟨rfl, rfl⟩ | ⟨gb, cap, cur, rfl, hbg, hgg, hnc, hcm, hcs, htake⟩
  · have e2 := run_append_nil (P := P) w t ty e i z ht hi hz ad m c news hl hnews (by omega) (by omega) (Nat.le_trans (by simpa using hbytes) (by decide : 140737488355328 ≤ 281474976710656))
    rw [e2] at hr
    injection hr with hv _
    subst hv
    simp [Value.ownBlock] at hk
    omega
  · by_cases hroom : n + m ≤ cap
    · have hfit : n * i.size + news.length ≤ cur.size := by rw [hl, hcs, ← Nat.add_mul]; exact Nat.mul_le_mul_right _ hroom
      have e2 := run_append_room (P := P) w t ty e i ht hi gb n cap cur hgg ad m c news hl hnews h1 hroom hfit
      rw [e2] at hr
      injection hr with hv _
      subst hv
      exact .inl hk
    · have holds : ∀ j u, xs[j]? = some u → w.cell? ((⟨gb, 0, none⟩ : Addr).add j) = some u := hown.cells (g := gb) rfl
      have e2 := run_append_grow (P := P) w t ty e i z ht hi hz ⟨gb, 0, none⟩ n cap xs hown.1 holds ad m c news hl hnews (by omega) (by omega) (growslice_fits (by omega) hbytes)
      rw [e2] at hr
      injection hr with hv _
      subst hv
      simp [Value.ownBlock] at hk
      omega
end
end Go.Proofs.Ytoboklelbbgcnaa
set_option linter.unusedSimpArgs false
set_option linter.unusedVariables false
namespace Go.Proofs.Ytoboklelbbgcnaa
open Go.RowKit
structure SlW (P : Program) (t e : TypeId) (z : Value) (n : Nat) : Prop where
  und : P.underlying t = some (.slice e)
  info : ∃ i, P.info? e = some i ∧ i.zero = some z ∧ i.size = n ∧ i.bytes ≤ 1024
  cells : z.cells.size = n
  pos : 0 < n
theorem SlW.elem {P : Program} {t e : TypeId} {z : Value} {n : Nat} (h : SlW P t e z n) : P.elem t = e := by simp [Program.elem, h.und]
theorem SlW.sizeOf {P : Program} {t e : TypeId} {z : Value} {n : Nat} (h : SlW P t e z n) (w : World) : (sizeOf e).run P w = .ok n w := by
  obtain ⟨i, hi, _, hs, _⟩ := h.info
  simp [Go.sizeOf, typeInfo, hi, hs]
theorem SlW.of {P : Program} {t e : TypeId} {z : Value} (h : SlT P t e z) : SlW P t e z 1 := by
  obtain ⟨i, h1, h2, h3, h4⟩ := h.info
  refine ⟨h.und, ⟨i, h1, h2, h3, by omega⟩, ?_, by decide⟩
  have := h.one
  cases z <;> simp_all [Value.cells, Value.oneCell']
def Wid (w : World) (B : Nat) (e : TypeId) (n : Nat) (v : Value) (rows : List (List Value)) : Prop :=
  (∀ r ∈ rows, r.length = n ∧ ∀ u ∈ r, u.oneCell' = true) ∧ w.ownsRow B e n v rows.length rows.flatten
theorem flat_len {n : Nat} : ∀ {rows : List (List Value)}, (∀ r ∈ rows, r.length = n) → rows.flatten.length = rows.length * n
  | [], _ => by simp
  | r :: rows, h => by
    rw [List.flatten_cons, List.length_append, h r (by simp), flat_len (fun q hq => h q (by simp [hq])), List.length_cons, Nat.add_mul]
    omega
theorem flat_at {n : Nat} : ∀ {rows : List (List Value)} {i j : Nat}, (∀ r ∈ rows, r.length = n) → i < rows.length → j < n → rows.flatten[i * n + j]? = (rows.getD i [])[j]?
  | r :: rows, 0, j, h, _, hj => by
    rw [List.flatten_cons, Nat.zero_mul, Nat.zero_add, List.getElem?_append_left (by rw [h r (by simp)]; exact hj)]; rfl
  | r :: rows, i + 1, j, h, hi, hj => by
    have hr := h r (by simp)
    rw [List.flatten_cons, List.getElem?_append_right (by rw [hr, Nat.add_mul]; omega), hr, show (i + 1) * n + j - n = i * n + j by rw [Nat.add_mul]; omega]
    exact flat_at (fun q hq => h q (by simp [hq])) (by simpa using hi) hj
section
variable {w w' : World} {B n : Nat} {e : TypeId} {v : Value} {rows : List (List Value)}
theorem Wid.nil (w : World) (B : Nat) (e : TypeId) (n : Nat) : Wid w B e n (.slice none 0 0) [] := ⟨by simp, World.ownsRow_nil w B e n⟩
theorem Wid.cases (h : Wid w B e n v rows) : (v = .slice none 0 0 ∧ rows = []) ∨ ∃ g cap cs, v = .slice (some ⟨g, 0, none⟩) rows.length cap ∧ B ≤ g ∧ Blk w g e cs ∧ rows.length ≤ cap ∧ cap ≤ maxLen ∧ cs.length = cap * n ∧ cs.take (rows.length * n) = rows.flatten := by
  rcases h.2.2 with ⟨h1, h2⟩ | ⟨g, cap, cur, h1, h2, h3, h4, h5, h6, h7⟩
  · exact .inl ⟨h1, List.eq_nil_of_length_eq_zero h2⟩
  · exact .inr ⟨g, cap, cur.toList, h1, h2, by simpa [Blk] using h3, h4, h5, by simpa using h6, h7⟩
theorem Wid.mk' {g cap : Nat} {cs : List Value} (hr : ∀ r ∈ rows, r.length = n ∧ ∀ u ∈ r, u.oneCell' = true) (h2 : B ≤ g) (h3 : Blk w g e cs) (h4 : rows.length ≤ cap) (h5 : cap ≤ maxLen) (h6 : cs.length = cap * n) (h7 : cs.take (rows.length * n) = rows.flatten) : Wid w B e n (.slice (some ⟨g, 0, none⟩) rows.length cap) rows :=
  ⟨hr, flat_len (fun r h => (hr r h).1), .inr ⟨g, cap, cs.toArray, rfl, h2, h3, h4, h5, by simpa using h6, by simpa using h7⟩⟩
theorem Wid.ext (h : Wid w B e n v rows) (x : Ext w w') : Wid w' B e n v rows := by
  rcases h.cases with ⟨rfl, rfl⟩ | ⟨g, cap, cs, rfl, h2, h3, h4, h5, h6, h7⟩
  · exact Wid.nil _ _ _ _
  · exact Wid.mk' h.1 h2 (h3.ext x) h4 h5 h6 h7
theorem Wid.mono {B' : Nat} (h : Wid w B e n v rows) (hB : B' ≤ B) : Wid w B' e n v rows := by
  rcases h.cases with ⟨rfl, rfl⟩ | ⟨g, cap, cs, rfl, h2, h3, h4, h5, h6, h7⟩
  · exact Wid.nil _ _ _ _
  · exact Wid.mk' h.1 (Nat.le_trans hB h2) h3 h4 h5 h6 h7
theorem Wid.lt (h : Wid w B e n v rows) : ∀ k, v.ownBlock = some k → B ≤ k ∧ k < w.heap.size := by
  rcases h.cases with ⟨rfl, rfl⟩ | ⟨g, cap, cs, rfl, h2, h3, h4, h5, h6, h7⟩
  · intro k hk; cases hk
  · intro k hk
    simp [Value.ownBlock] at hk
    subst hk
    exact ⟨h2, h3.lt⟩
theorem Wid.grown {r : Option Nat} (h : Wid w B e n v rows) (hg : w.grownBy w' r) (hne : ∀ k, v.ownBlock = some k → r ≠ some k) : Wid w' B e n v rows := by
  rcases h.cases with ⟨rfl, rfl⟩ | ⟨g, cap, cs, rfl, h2, h3, h4, h5, h6, h7⟩
  · exact Wid.nil _ _ _ _
  · exact Wid.mk' h.1 h2 (h3.grown hg (hne g rfl)) h4 h5 h6 h7
theorem Wid.stored {g : Nat} {t : TypeId} {cs : List Value} (h : Wid w B e n v rows) (hg : w.grownBy w' (some g)) (hb : Blk w g t cs) (hne : t ≠ e) : Wid w' B e n v rows := by
  refine h.grown hg fun k hk hc => ?_
  injection hc with hc
  subst hc
  rcases h.cases with ⟨rfl, rfl⟩ | ⟨g', cap, cs', rfl, h2, h3, _⟩
  · cases hk
  · simp [Value.ownBlock] at hk
    subst hk
    exact hb.ne h3 hne rfl
theorem Wid.owned {B' : Nat} {t : TypeId} {u : Value} {us : List Value} (h : Wid w B e n v rows) (ho : Own w B' t u us) (hg : w.grownBy w' u.ownBlock) (hne : t ≠ e) : Wid w' B e n v rows := by
  rcases ho.cases with ⟨rfl, rfl⟩ | ⟨g, cap, cs, rfl, hg', hb, _⟩
  · exact h.ext (Ext.of_grown hg)
  · exact h.stored (g := g) hg hb hne
variable (ho : Wid w B e n v rows) (hg : w.grownBy w' v.ownBlock)
theorem Row.wid {e' : TypeId} {u : Value} {us : List Value} (h : Row w e' u us) (ho : Wid w B e n v rows) (hg : w.grownBy w' v.ownBlock) (hne : e ≠ e') : Row w' e' u us := by
  rcases ho.cases with ⟨rfl, rfl⟩ | ⟨g, cap, cs, rfl, h2, hb, _⟩
  · exact h.ext (Ext.of_grown hg)
  · exact h.grown (g := g) hg hb hne
theorem Own.wid {B' : Nat} {e' : TypeId} {u : Value} {us : List Value} (h : Own w B' e' u us) (ho : Wid w B e n v rows) (hg : w.grownBy w' v.ownBlock) (hne : e ≠ e') : Own w' B' e' u us := by
  rcases ho.cases with ⟨rfl, rfl⟩ | ⟨g, cap, cs, rfl, h2, hb, _⟩
  · exact h.ext (Ext.of_grown hg)
  · exact h.stored (g := g) hg hb hne
theorem OwnRows.wid {B' U : Nat} {e' e'' : TypeId} {u : Value} {xss : List (List Int)} (h : OwnRows w B' U e' e'' u xss) (ho : Wid w B e n v rows) (hg : w.grownBy w' v.ownBlock) (hne : e ≠ e') (hne' : e ≠ e'') : OwnRows w' B' U e' e'' u xss := by
  rcases ho.cases with ⟨rfl, rfl⟩ | ⟨g, cap, cs, rfl, h2, hb, _⟩
  · exact h.ext (Ext.of_grown hg)
  · exact h.stored (g := g) hg hb hne hne'
theorem Blk.wid {b : Nat} {e' : TypeId} {cs : List Value} (h : Blk w b e' cs) (ho : Wid w B e n v rows) (hg : w.grownBy w' v.ownBlock) (hne : e ≠ e') : Blk w' b e' cs := by
  rcases ho.cases with ⟨rfl, rfl⟩ | ⟨g, cap, cs', rfl, h2, hb, _⟩
  · exact h.ext (Ext.of_grown hg)
  · exact h.grown hg (fun e2 => hb.ne h hne (by simpa [Value.ownBlock] using e2))
theorem Wid.wid {B' n' : Nat} {e' : TypeId} {u : Value} {rows' : List (List Value)} (h : Wid w B' e' n' u rows') (ho : Wid w B e n v rows) (hg : w.grownBy w' v.ownBlock) (hne : e ≠ e') : Wid w' B' e' n' u rows' := by
  rcases ho.cases with ⟨rfl, rfl⟩ | ⟨g, cap, cs, rfl, h2, hb, _⟩
  · exact h.ext (Ext.of_grown hg)
  · exact h.stored (g := g) hg hb hne
theorem MapN.wid {κ : Type} {enc : κ → Value} {b : Nat} {xs : List κ} (h : MapN enc w b xs) (ho : Wid w B e n v rows) (hg : w.grownBy w' v.ownBlock) : MapN enc w' b xs := by
  rcases ho.cases with ⟨rfl, rfl⟩ | ⟨g, cap, cs, rfl, h2, hb, _⟩
  · exact h.ext (Ext.of_grown hg)
  · exact h.stored (gb := g) hg hb
theorem Ext.wid {a : World} (h : Ext a w) (ho : Wid w B e n v rows) (hg : w.grownBy w' v.ownBlock) (hB : a.heap.size ≤ B) : Ext a w' := h.grown hg fun k hk => Nat.le_trans hB (ho.lt k hk).1
theorem Wid.at (h : Wid w B e n v rows) {i : Int} (h0 : 0 ≤ i) (h1 : i < rows.length) : ∃ g c, v = .slice (some ⟨g, 0, none⟩) rows.length c ∧ B ≤ g ∧ g < w.heap.size ∧ ∀ j, j < n → w.cell? ⟨g, i.toNat * n + j, none⟩ = (rows.getD i.toNat [])[j]? := by
  rcases h.cases with ⟨rfl, rfl⟩ | ⟨g, cap, cs, rfl, h2, h3, h4, h5, h6, h7⟩
  · simp at h1; omega
  · refine ⟨g, cap, rfl, h2, h3.lt, fun j hj => ?_⟩
    have hlt : i.toNat < rows.length := by omega
    rw [h3.cell, ← flat_at (fun r hr => (h.1 r hr).1) hlt hj, ← h7, List.getElem?_take, if_pos]
    have : (i.toNat + 1) * n ≤ rows.length * n := Nat.mul_le_mul_right _ hlt
    rw [Nat.add_mul] at this
    omega
end
section
variable {P : Program} {N : Nat} {ops : Array Oper} {Q : Exit → Act → World → Prop} {rest : List Oper} {l : Slots} {w : World}
variable {d : Nat} {ty : TypeId} {pos : String} {after : Array Edge} {g : Option (Nat × Bool)}
theorem Still.ixW {t e : TypeId} {z : Value} {n gb len c : Nat} {x ix : Operand} {k : IntKind} {i : Int} (hs : SlW P t e z n) (hx : ev l x = some (.slice (some ⟨gb, 0, none⟩) len c)) (hix : ev l ix = some (.int k i)) (hi : 0 ≤ i ∧ i < (len : Int)) :
    Still P N l ⟨some d, .indexAddr t x ix, ty, pos, after, g⟩ (.pointer (some ⟨gb, i.toNat * n, none⟩)) w := fun a ha => by
  have := run_indexAt_slice (P := P) (w := w) t ⟨gb, 0, none⟩ len c k i (by rw [hs.elem]; exact hs.und)
  rw [hs.elem, hs.sizeOf] at this
  simp [execOp, ha.ev hx, ha.ev hix, this, hi, addr_add]
theorem fold_cells (off : Nat) : ∀ (vs : List Value) (j : Nat) (zs : Array Value), off + j + vs.length ≤ zs.size →
    ((vs.zipIdx j).foldl (fun (cs : Array Value) (p : Value × Nat) => cs.setIfInBounds (off + p.2) p.1) zs).toList = zs.toList.take (off + j) ++ vs ++ zs.toList.drop (off + j + vs.length)
  | [], j, zs, h => by simp
  | v :: vs, j, zs, h => by
    simp only [List.length_cons] at h
    rw [List.zipIdx_cons, List.foldl_cons, fold_cells off vs (j + 1) _ (by simp; omega)]
    have hlt : off + j < zs.toList.length := by simp; omega
    have h3 : (zs.toList.set (off + j) v).take (off + (j + 1)) = zs.toList.take (off + j) ++ [v] := by
      rw [show off + (j + 1) = (off + j) + 1 by omega, List.take_succ_eq_append_getElem (by simpa using hlt)]
      simp [List.take_set_of_le (Nat.le_refl (off + j))]
    have h4 : (zs.toList.set (off + j) v).drop (off + (j + 1) + vs.length) = zs.toList.drop (off + j + (vs.length + 1)) := by
      rw [List.drop_set_of_lt (by omega)]
      congr 1
      omega
    simp only [Array.toList_setIfInBounds, h3, h4, List.length_cons]
    simp
theorem fill_wide {n : Nat} : ∀ (rows : List (List Value)) (k : Nat) (zs : Array Value), (∀ r ∈ rows, r.length = n) → (k + rows.length) * n ≤ zs.size →
    ∃ cs, Instr.fill (fun i => some (i * n, n)) zs ((List.range' k rows.length).zip (rows.map fun r => Value.agg r.toArray)) = some cs ∧ cs.toList = zs.toList.take (k * n) ++ rows.flatten ++ zs.toList.drop ((k + rows.length) * n)
  | [], k, zs, _, _ => ⟨zs, by simp [Instr.fill], by simp⟩
  | r :: rows, k, zs, h, hk => by
    have hr := h r (by simp)
    simp only [List.length_cons] at hk
    have e1 : (k + (rows.length + 1)) * n = k * n + n + rows.length * n := by rw [Nat.add_mul, Nat.add_mul]; omega
    have e2 : (k + 1) * n = k * n + n := by rw [Nat.add_mul]; omega
    have hf := fold_cells (k * n) r 0 zs (by omega)
    have hsz : ((r.zipIdx 0).foldl (fun (cs : Array Value) (p : Value × Nat) => cs.setIfInBounds (k * n + p.2) p.1) zs).size = zs.size := by
      rw [← Array.length_toList, hf]; simp; omega
    obtain ⟨cs, f1, f2⟩ := fill_wide rows (k + 1) _ (fun q hq => h q (by simp [hq])) (by rw [hsz, Nat.add_mul, e2]; omega)
    refine ⟨cs, ?_, ?_⟩
    · have h1 : ¬ zs.size < k * n + r.length := by omega
      simp only [List.length_cons, List.range'_succ, List.map_cons, List.zip_cons_cons, Instr.fill, Value.cells]
      simp only [List.size_toArray, hr]
      rw [if_neg (by simp; omega)]
      have e3 : (r.toArray.zipIdx.foldl (fun (cs : Array Value) (p : Value × Nat) => cs.setIfInBounds (k * n + p.2) p.1) zs) = ((r.zipIdx 0).foldl (fun (cs : Array Value) (p : Value × Nat) => cs.setIfInBounds (k * n + p.2) p.1) zs) := by simp
      exact e3 ▸ f1
    · rw [f2, hf]
      simp only [Nat.add_zero, List.flatten_cons, List.length_cons]
      have e4 : (k + 1 + rows.length) * n = k * n + n + rows.length * n := by rw [Nat.add_mul, e2]
      have t1 : (zs.toList.take (k * n) ++ r ++ zs.toList.drop (k * n + r.length)).take ((k + 1) * n) = zs.toList.take (k * n) ++ r := by
        rw [e2, List.take_append_of_le_length (by simp; omega), List.take_of_length_le (by simp; omega)]
      have t2 : (zs.toList.take (k * n) ++ r ++ zs.toList.drop (k * n + r.length)).drop ((k + 1 + rows.length) * n) = zs.toList.drop ((k + (rows.length + 1)) * n) := by
        rw [e4, e1, List.drop_append, List.drop_of_length_le (by simp; omega), List.nil_append, List.drop_drop]
        congr 1
        simp
        omega
      rw [t1, t2]
      simp
theorem Sq.litW {t e : TypeId} {z : Value} {n m : Nat} {parts : List (Nat × Operand)} {rows : List (List Value)} (hs : SlW P t e z n) (hp : parts.map (·.1) = List.range m) (hm : rows.length = m) (hn : m * n ≤ 1000) (hg : On ops l g) (hN : Nat.blt d N = true)
    (hx : evs l (parts.map (·.2)) = some (rows.map fun r => Value.agg r.toArray)) (h1 : ∀ r ∈ rows, r.length = n ∧ ∀ u ∈ r, u.oneCell' = true)
    (h : ∀ b w', Ext w w' → w.heap.size ≤ b → (∀ B, B ≤ w.heap.size → Wid w' B e n (.slice (some ⟨b, 0, none⟩) m m) rows) → Blk w' b e rows.flatten → Sq P N ops Q rest ((d, .slice (some ⟨b, 0, none⟩) m m) :: l) w') :
    Sq P N ops Q (⟨some d, .buildSlice t m parts.toArray, ty, pos, after, g⟩ :: rest) l w := by
  obtain ⟨i, hi, hz, hsz, hby⟩ := hs.info
  have hfl := flat_len (fun r hr => (h1 r hr).1)
  have hbn := Blk.new w e rows.flatten
  refine .val (w' := w.alloc (.cells rows.flatten.toArray e)) hg rfl hN (fun a ha => ?_) (h _ _ (Ext.alloc _ _) (Nat.le_refl _) (fun B hB => ?_) hbn)
  · obtain ⟨cs, f1, f2⟩ := fill_wide (n := n) rows 0 ((Array.range (m * n)).map (fun j => z.cells[j % z.cells.size]!)) (fun r hr => (h1 r hr).1) (by simp [hm])
    have f3 : cs = rows.flatten.toArray := by
      have : cs.toList = rows.flatten := by
        rw [f2, hm]
        simp
      rw [← this]
    subst f3
    have e1 : (parts.toArray.map fun (i, x) => (i, a.eval x)) = ((List.range m).zip (rows.map fun r => Value.agg r.toArray)).toArray := by
      rw [← hp, ← ha.evs hx]
      simp [List.zip_map', List.map_map]
    have hlim : ¬ 16777216 < m * n := by omega
    rw [List.range_eq_range'] at e1
    rw [hm] at f1
    simp only [execOp]
    rw [e1]
    by_cases h0 : m * n = 0
    · have hm0 : m = 0 := by
        rcases Nat.mul_eq_zero.1 h0 with h | h
        · exact h
        · have := hs.pos; omega
      subst hm0
      obtain rfl : rows = [] := List.eq_nil_of_length_eq_zero hm
      have hr0 : Array.map (fun j : Nat => z.cells[j % z.cells.size]!) (Array.range 0) = #[] := by apply Array.ext <;> simp
      have hr1 : Array.map (fun _ : Nat => (default : Value)) (Array.range 0) = #[] := by apply Array.ext <;> simp
      simp [Instr.buildSlice, run_underlying hs.und, hs.sizeOf, newRow, Instr.fill, hr0, hr1]
    · simp [Instr.buildSlice, run_underlying hs.und, hs.sizeOf, newRow, zeroValue, typeInfo, hi, hz, hlim, h0, f1]
  · have := Wid.mk' (w := w.alloc (.cells rows.flatten.toArray e)) (B := B) (e := e) (n := n) (rows := rows) (g := w.heap.size) (cap := m) (cs := rows.flatten) h1 hB hbn (by omega) (by unfold maxLen; have := Nat.le_mul_of_pos_right m hs.pos; omega) (by rw [hfl, hm]) (by rw [List.take_of_length_le (by rw [hfl]; exact Nat.le_refl _)])
    rw [hm] at this
    exact this
theorem Sq.appS {t e : TypeId} {z : Value} {n b c : Nat} {s x : Operand} {v : Value} {r : List Value} {rows : List (List Value)} {B : Nat}
    (hs : SlW P t e z n) (ho : Wid w B e n v rows) (hB : B ≤ w.heap.size) (hlen : rows.length < 1048576) (hb : Blk w b e r) (hr : r.length = n ∧ ∀ u ∈ r, u.oneCell' = true) (hg : On ops l g) (hN : Nat.blt d N = true) (hsv : ev l s = some v) (hxv : ev l x = some (.slice (some ⟨b, 0, none⟩) 1 c))
    (h : ∀ v' w', Wid w' B e n v' (rows ++ [r]) → w.grownBy w' v.ownBlock → (∀ k, v'.ownBlock = some k → v.ownBlock = some k ∨ w.heap.size ≤ k) → v' ≠ .slice none 0 0 → Sq P N ops Q rest ((d, v') :: l) w') :
    Sq P N ops Q (⟨some d, .call ⟨.builtin .append, #[s, x], #[t, t]⟩, ty, pos, after, g⟩ :: rest) l w := by
  obtain ⟨i, hi, hz, hsz, hby⟩ := hs.info
  have hnews : ∀ j u, r[j]? = some u → w.cell? ((⟨b, 0, none⟩ : Addr).add j) = some u := fun j u hj => by rw [addr_add, hb.cell]; simpa using hj
  have hl : r.length = 1 * n := by rw [hr.1, Nat.one_mul]
  have h63 : rows.length + 1 ≤ maxLen := by unfold maxLen; omega
  have hby' : (rows.length + 1) * i.bytes ≤ 140737488355328 := Nat.le_trans (Nat.mul_le_mul (show rows.length + 1 ≤ 1048576 by omega) hby) (by decide)
  obtain ⟨v', w', hrun, r1, r2, r3⟩ := run_append_own (P := P) w B t ty e i z n i.bytes hs.und hi hz hsz rfl hs.cells hs.pos v rows.length rows.flatten ho.2 ⟨b, 0, none⟩ 1 c r hl hnews hr.2 h63 hby' hB
  have hf := fresh_of (P := P) (ty := ty) hs.und hi hz hsz ho.2 hl hnews hr.2 h63 hby' (by decide) hrun
  have hW : Wid w' B e n v' (rows ++ [r]) := ⟨fun q hq => by
    rcases List.mem_append.1 hq with h | h
    · exact ho.1 q h
    · rw [List.mem_singleton.1 h]; exact hr, by simpa using r1⟩
  refine .val (w' := w') hg rfl hN (fun a ha => ?_) (h v' w' hW r2 hf (fun hc => by simpa using r3.1 hc))
  rw [BigFrame.execOp_builtin, BigFrame.builtin_append]
  simp only [List.map_toArray, List.map_cons, List.map_nil, ha.ev hsv, ha.ev hxv, Sem.run_bind, hrun, Result.andThen, Sem.run_pure]
def ones (vs : List Value) : List (List Value) := vs.map fun v => [v]
theorem ones_flat (vs : List Value) : (ones vs).flatten = vs := by
  unfold ones
  induction vs with
  | nil => rfl
  | cons v r ih => rw [List.map_cons, List.flatten_cons, ih]; rfl
theorem Wid.of_own {B : Nat} {e : TypeId} {v : Value} {vs : List Value} (h : Own w B e v vs) (h1 : ∀ u ∈ vs, u.oneCell' = true) : Wid w B e 1 v (ones vs) := by
  refine ⟨fun r hr => ?_, ?_⟩
  · obtain ⟨u, hu, rfl⟩ := List.mem_map.1 hr
    exact ⟨rfl, fun y hy => by rw [List.mem_singleton.1 hy]; exact h1 u hu⟩
  · rw [ones_flat]
    have : (ones vs).length = vs.length := List.length_map _
    rw [this]
    exact h
theorem Wid.to_own {B : Nat} {e : TypeId} {v : Value} {vs : List Value} (h : Wid w B e 1 v (ones vs)) : Own w B e v vs := by
  have h2 := h.2
  rw [ones_flat] at h2
  have : (ones vs).length = vs.length := List.length_map _
  rw [this] at h2
  exact h2
theorem Sq.app1F {t e : TypeId} {z : Value} {b c : Nat} {s x : Operand} {v u : Value} {vs : List Value} {B : Nat}
    (hs : SlT P t e z) (ho : Own w B e v vs) (h1 : ∀ u ∈ vs, u.oneCell' = true) (hB : B ≤ w.heap.size) (hlen : vs.length < 1048576) (hb : Blk w b e [u]) (hu : u.oneCell' = true) (hg : On ops l g) (hN : Nat.blt d N = true) (hsv : ev l s = some v) (hxv : ev l x = some (.slice (some ⟨b, 0, none⟩) 1 c))
    (h : ∀ v' w', Own w' B e v' (vs ++ [u]) → w.grownBy w' v.ownBlock → (∀ k, v'.ownBlock = some k → v.ownBlock = some k ∨ w.heap.size ≤ k) → v' ≠ .slice none 0 0 → Sq P N ops Q rest ((d, v') :: l) w') :
    Sq P N ops Q (⟨some d, .call ⟨.builtin .append, #[s, x], #[t, t]⟩, ty, pos, after, g⟩ :: rest) l w :=
  Sq.appS (SlW.of hs) (Wid.of_own ho h1) hB (by simpa [ones] using hlen) hb ⟨rfl, by simpa using hu⟩ hg hN hsv hxv fun v' w' g1 g2 g3 g4 => h v' w' (Wid.to_own (by simpa [ones] using g1)) g2 g3 g4
end
end Go.Proofs.Ytoboklelbbgcnaa
set_option linter.unusedSimpArgs false
set_option linter.unusedVariables false
namespace Go.Proofs.Ytoboklelbbgcnaa
def run (a : A) (q : Int) (w : List Int) : Int := w.foldl (goA a) q
theorem runTo_run (a : A) (q : Int) (s : ByteArray) (k : Nat) : runTo a q s k = run a q ((lts s).take k) := rfl
theorem runTo_all (a : A) (q : Int) (s : ByteArray) : runTo a q s s.size = run a q (lts s) := by rw [runTo_run, List.take_of_length_le (by rw [lts_length]; exact Nat.le_refl _)]
theorem after_run {a : A} {s : ByteArray} (h : validA a = true) (hw : within s a.al = true) : after a s = run a 0 (lts s) := by rw [after_good h hw rfl, runTo_all]
theorem after_spec {a : A} {s : ByteArray} (h : 0 ≤ after a s) : validA a = true ∧ within s a.al = true := by
  rcases Classical.em (validA a = true ∧ within s a.al = true) with hc | hc
  · exact hc
  · rw [after_bad hc] at h; omega
theorem word_in {s : ByteArray} {al : Int} (h : within s al = true) : ∀ x ∈ lts s, 0 ≤ x ∧ x < 6 := fun x hx => hs_small (within_spec.1 h).1 ((within_spec.1 h).2.2 x hx)
theorem run_stay {a : A} (hv : validA a = true) {w : List Int} (hw : ∀ x ∈ w, 0 ≤ x ∧ x < 6) {q : Int} (hq : 0 ≤ q ∧ q < a.next.length) : 0 ≤ run a q w ∧ run a q w < a.next.length := foldl_in hv w q hw hq
theorem zero_in {a : A} (hv : validA a = true) : 0 ≤ (0 : Int) ∧ (0 : Int) < a.next.length := by have := (validA_spec.1 hv).2.1; omega
theorem after_ge {a : A} {s : ByteArray} (h : validA a = true) (hw : within s a.al = true) : 0 ≤ after a s ∧ after a s < a.next.length := by
  rw [after_run h hw]; exact run_stay h (word_in hw) (zero_in h)
theorem accepts_run {a : A} {s : ByteArray} (h : validA a = true) (hw : within s a.al = true) : accepts a s = a.acc.getD (run a 0 (lts s)).toNat false := by
  rw [accepts_T (after_ge h hw).1, after_run h hw]
theorem accepts_spec {a : A} {s : ByteArray} (h : accepts a s = true) : validA a = true ∧ within s a.al = true := by
  unfold accepts at h
  simp only [Bool.and_eq_true, decide_eq_true_eq] at h
  exact after_spec h.1
theorem many_step {o s K : Nat} {n : Int} (h : o + s * n.toNat ≤ K) (hn : 0 < n) : s ≤ K ∧ o + s ≤ K ∧ (n % 2 = 1 → (o + s) + (s + s) * (n / 2).toNat ≤ K) ∧ (n % 2 ≠ 1 → o + (s + s) * (n / 2).toNat ≤ K) := by
  obtain ⟨k, rfl⟩ := Int.eq_ofNat_of_zero_le (Int.le_of_lt hn)
  rw [Int.toNat_natCast] at h
  have h1 : s ≤ s * k := Nat.le_mul_of_pos_right s (by omega)
  refine ⟨by omega, by omega, fun h2 => ?_, fun h2 => ?_⟩
  · obtain ⟨m, rfl⟩ : ∃ m, k = 2 * m + 1 := ⟨k / 2, by omega⟩
    have e : (((2 * m + 1 : Nat) : Int) / 2).toNat = m := by omega
    rw [e]
    have : s * (2 * m + 1) = (s + s) * m + s := by rw [Nat.mul_succ, ← Nat.mul_assoc, Nat.mul_two]
    omega
  · obtain ⟨m, rfl⟩ : ∃ m, k = 2 * m := ⟨k / 2, by omega⟩
    have e : (((2 * m : Nat) : Int) / 2).toNat = m := by omega
    rw [e]
    have : s * (2 * m) = (s + s) * m := by rw [← Nat.mul_assoc, Nat.mul_two]
    omega
theorem lw_at {xs : List Int} (h : ∀ x ∈ xs, 0 ≤ x ∧ x < 6) {k : Nat} (hk : k < xs.length) : 0 ≤ xs.getD k 0 ∧ xs.getD k 0 ≤ 100 := by
  have := h _ (getD_mem (d := 0) hk)
  omega
theorem of_size {xs : List ByteArray} {n : Nat} (h : xs.all (fun x => Nat.ble x.size n) = true) {x : ByteArray} (hx : x ∈ xs) : x.size ≤ n := all_size h x hx
section
variable {P : Program} {N : Nat} {ops : Array Oper} {Q : Exit → Act → World → Prop} {S : World → Prop} {k fuel : Nat} {listed : Array Bool} {l : Slots} {w : World}
theorem Gq.beT {b : Bool} {d : Nat} (e : b = true) (h : Gq P N ops Q S k fuel listed ((d, .bool true) :: l) w) : Gq P N ops Q S k fuel listed ((d, .bool b) :: l) w := by rw [e]; exact h
theorem Gq.beF {b : Bool} {d : Nat} (e : b = false) (h : Gq P N ops Q S k fuel listed ((d, .bool false) :: l) w) : Gq P N ops Q S k fuel listed ((d, .bool b) :: l) w := by rw [e]; exact h
end
theorem Own.setU2 {w : World} {B : Nat} {e : TypeId} {v : Value} {ys : List UInt8} {x y : UInt8} {i j : Nat} (h : Own w B e v (((ys.map fun b => Value.int .u8 (b.toNat : Int)).set i (Value.int .u8 (x.toNat : Int))).set j (Value.int .u8 (y.toNat : Int)))) : Own w B e v (((ys.set i x).set j y).map fun b => Value.int .u8 (b.toNat : Int)) := by
  rw [List.map_set, List.map_set]; exact h
def RevAt (xs : List UInt8) (k : Nat) (ys : List UInt8) : Prop := ys.length = xs.length ∧ ∀ m, m < xs.length → ys.getD m 0 = if m < k ∨ xs.length - 1 - k < m then xs.getD (xs.length - 1 - m) 0 else xs.getD m 0
theorem RevAt.zero (xs : List UInt8) : RevAt xs 0 xs := ⟨rfl, fun m hm => by rw [if_neg (by omega)]⟩
theorem getD_setU (l : List UInt8) (k m : Nat) (x : UInt8) (hk : k < l.length) : (l.set k x).getD m 0 = if k = m then x else l.getD m 0 := by
  rw [List.getD_eq_getElem?_getD, List.getElem?_set]
  by_cases h : k = m
  · subst h; simp [hk]
  · simp [h]
theorem RevAt.step {xs ys : List UInt8} {k : Nat} (h : RevAt xs k ys) (hk : k < xs.length - 1 - k) : RevAt xs (k + 1) ((ys.set k (ys.getD (xs.length - 1 - k) 0)).set (xs.length - 1 - k) (ys.getD k 0)) := by
  obtain ⟨h1, h2⟩ := h
  refine ⟨by simp [h1], fun m hm => ?_⟩
  rw [getD_setU _ _ _ _ (by rw [List.length_set]; omega), getD_setU _ _ _ _ (by omega)]
  by_cases e1 : xs.length - 1 - k = m
  · subst e1
    rw [if_pos rfl, h2 k (by omega), if_neg (by omega), if_pos (by omega)]
    congr 1; omega
  · rw [if_neg e1]
    by_cases e2 : k = m
    · subst e2
      rw [if_pos rfl, h2 _ (by omega), if_neg (by omega), if_pos (by omega)]
    · rw [if_neg e2, h2 m hm]
      by_cases h3 : m < k ∨ xs.length - 1 - k < m
      · rw [if_pos h3, if_pos (by omega)]
      · rw [if_neg h3, if_neg (by omega)]
theorem RevAt.done {xs ys : List UInt8} {k : Nat} (h : RevAt xs k ys) (hk : xs.length - 1 ≤ k + k) : ys = xs.reverse := by
  obtain ⟨h1, h2⟩ := h
  refine List.ext_getElem (by rw [h1, List.length_reverse]) fun m m1 m2 => ?_
  have h3 := h2 m (by omega)
  rw [List.getD_eq_getElem?_getD, List.getElem?_eq_getElem m1] at h3
  rw [List.getElem_reverse]
  have h4 : xs.length - 1 - m < xs.length := by omega
  have e : xs.getD (xs.length - 1 - m) 0 = xs[xs.length - 1 - m] := by rw [List.getD_eq_getElem?_getD, List.getElem?_eq_getElem h4]; rfl
  rw [← e]
  by_cases h5 : m < k ∨ xs.length - 1 - k < m
  · rw [if_pos h5] at h3; exact h3
  · rw [if_neg h5] at h3
    have : xs.length - 1 - m = m := by omega
    rw [this]; exact h3
end Go.Proofs.Ytoboklelbbgcnaa
set_option linter.unusedSimpArgs false
set_option linter.unusedVariables false
namespace Go.Proofs.Ytoboklelbbgcnaa
def many (n : Nat) : Nat := if h : n = 0 then 200 else many (n - 1)
  termination_by n
theorem many_eq : many 0 = 200 := by rw [many]; simp
section bfs
variable {α : Type} [DecidableEq α]
def addNode (ns : List α) (x : α) : List α := if x ∈ ns then ns else ns ++ [x]
def addAll (ns : List α) (xs : List α) : List α := xs.foldl addNode ns
theorem addNode_T {ns : List α} {x : α} (h : x ∈ ns) : addNode ns x = ns := if_pos h
theorem addNode_F {ns : List α} {x : α} (h : x ∉ ns) : addNode ns x = ns ++ [x] := if_neg h
theorem mem_addNode {ns : List α} {x y : α} : y ∈ addNode ns x ↔ y ∈ ns ∨ y = x := by
  unfold addNode
  split
  · exact ⟨.inl, fun h => h.elim id (fun h => h ▸ by assumption)⟩
  · simp
theorem nodup_addNode {ns : List α} (h : ns.Nodup) (x : α) : (addNode ns x).Nodup := by
  unfold addNode
  split
  · exact h
  · rename_i hx
    rw [List.nodup_append]
    exact ⟨h, by simp, fun a ha b hb hab => hx (by rw [List.mem_singleton.1 hb] at hab; exact hab ▸ ha)⟩
theorem addAll_nil (ns : List α) : addAll ns [] = ns := rfl
theorem addAll_cons (ns : List α) (x : α) (xs : List α) : addAll ns (x :: xs) = addAll (addNode ns x) xs := rfl
theorem mem_addAll {y : α} : ∀ {xs ns : List α}, y ∈ addAll ns xs ↔ y ∈ ns ∨ y ∈ xs
  | [], ns => by simp [addAll_nil]
  | x :: xs, ns => by rw [addAll_cons, mem_addAll, mem_addNode, List.mem_cons, or_assoc]
theorem nodup_addAll : ∀ {xs ns : List α}, ns.Nodup → (addAll ns xs).Nodup
  | [], _, h => h
  | x :: xs, _, h => nodup_addAll (xs := xs) (nodup_addNode h x)
def bfs (f : α → Int → α) (s : α) (L : List Int) : Nat → List α
  | 0 => [s]
  | i + 1 => match (bfs f s L i)[i]? with
    | some q => addAll (bfs f s L i) (L.map (f q))
    | none => bfs f s L i
variable {f : α → Int → α} {s : α} {L : List Int}
theorem bfs_nodup (i : Nat) : (bfs f s L i).Nodup := by
  induction i with
  | zero => simp [bfs]
  | succ i ih =>
    rw [bfs]
    split
    · exact nodup_addAll ih
    · exact ih
theorem bfs_stop {i : Nat} (h : (bfs f s L i).length ≤ i) {j : Nat} (hj : i ≤ j) : bfs f s L j = bfs f s L i := by
  induction j with
  | zero => rw [Nat.le_zero.1 hj]
  | succ j ih =>
    rcases Nat.lt_or_ge j i with h1 | h1
    · rw [show i = j + 1 by omega]
    · rw [bfs, ih h1, List.getElem?_eq_none (by omega)]
theorem bfs_all {P : α → Prop} (h0 : P s) (hs : ∀ q, P q → ∀ l ∈ L, P (f q l)) (i : Nat) : ∀ q ∈ bfs f s L i, P q := by
  induction i with
  | zero => simp [bfs, h0]
  | succ i ih =>
    rw [bfs]
    split
    · rename_i q hq
      have hq' : q ∈ bfs f s L i := List.mem_of_getElem? hq
      intro y hy
      rcases mem_addAll.1 hy with h | h
      · exact ih y h
      · obtain ⟨l, hl, rfl⟩ := List.mem_map.1 h
        exact hs q (ih q hq') l hl
    · exact ih
theorem nodup_len : ∀ {xs U : List α}, xs.Nodup → (∀ q ∈ xs, q ∈ U) → xs.length ≤ U.length
  | [], _, _, _ => Nat.zero_le _
  | x :: xs, U, h, hs => by
    obtain ⟨h1, h2⟩ := List.nodup_cons.1 h
    have hx := hs x (by simp)
    have h3 := nodup_len (U := U.erase x) h2 (fun q hq => (List.mem_erase_of_ne (by rintro rfl; exact h1 hq)).2 (hs q (by simp [hq])))
    rw [List.length_erase_of_mem hx] at h3
    have := List.length_pos_of_mem hx
    simp only [List.length_cons]
    omega
def ord (f : α → Int → α) (s : α) (L : List Int) : List α := bfs f s L (many 0)
def rowAt (f : α → Int → α) (L : List Int) (ns : List α) (q : α) : List Int := L.map fun l => (ns.idxOf (f q l) : Int)
end bfs
section maps
variable {α β : Type} [DecidableEq α] [DecidableEq β] {f : α → Int → α} {s : α} {L : List Int} {f' : β → Int → β} {g : α → β} {P : α → Prop}
end maps
def num {α : Type} [DecidableEq α] (al : Int) (f : α → Int → α) (s : α) (acc : α → Bool) : A :=
  ⟨al, (ord f s (letters al)).map (rowAt f (letters al) (ord f s (letters al))), (ord f s (letters al)).map acc⟩
section num
variable {α : Type} [DecidableEq α] {al : Int} {f : α → Int → α} {s : α} {acc : α → Bool}
theorem letters_mem {b x : Int} (hx : 0 ≤ x ∧ x < 6) (h : hs b x = true) : x ∈ letters b := by
  simp only [letters, lettersTo, List.mem_filter, List.mem_map, List.mem_range]
  exact ⟨⟨x.toNat, by omega, by omega⟩, h⟩
end num
def accA (a : A) (q : Int) : Bool := a.acc.getD q.toNat false
theorem inU {n : Nat} {q : Int} : q ∈ (List.range n).map (fun i : Nat => (i : Int)) ↔ 0 ≤ q ∧ q < n := by
  rw [List.mem_map]
  constructor
  · rintro ⟨i, hi, rfl⟩; have := List.mem_range.1 hi; omega
  · rintro ⟨h1, h2⟩; exact ⟨q.toNat, List.mem_range.2 (by omega), by omega⟩
def step2 (a b : A) (p : Int × Int) (l : Int) : Int × Int := (goA a p.1 l, goA b p.2 l)
theorem in2 {a b : A} (hv : validA a = true) (hv' : validA b = true) {p : Int × Int} (hp : (0 ≤ p.1 ∧ p.1 < a.next.length) ∧ 0 ≤ p.2 ∧ p.2 < b.next.length) {l : Int} (hl : 0 ≤ l ∧ l < 6) : (0 ≤ (step2 a b p l).1 ∧ (step2 a b p l).1 < a.next.length) ∧ 0 ≤ (step2 a b p l).2 ∧ (step2 a b p l).2 < b.next.length :=
  ⟨goA_in hv hp.1 hl, goA_in hv' hp.2 hl⟩
end Go.Proofs.Ytoboklelbbgcnaa
set_option linter.unusedSimpArgs false
set_option linter.unusedVariables false
namespace Go.Proofs.Ytoboklelbbgcnaa
def In2 (a b : A) (p : Int × Int) : Prop := (0 ≤ p.1 ∧ p.1 < a.next.length) ∧ 0 ≤ p.2 ∧ p.2 < b.next.length
theorem in_zero {a b : A} (hv : validA a = true) (hv' : validA b = true) : In2 a b (0, 0) := ⟨zero_in hv, zero_in hv'⟩
theorem le144 {a b : A} (hv : validA a = true) (hv' : validA b = true) : a.next.length * b.next.length ≤ 144 := Nat.mul_le_mul (validA_spec.1 hv).2.1.2 (validA_spec.1 hv').2.1.2
theorem word_letters {s : ByteArray} {al : Int} (h : within s al = true) : ∀ x ∈ lts s, x ∈ letters al := fun x hx => letters_mem (word_in h x hx) ((within_spec.1 h).2.2 x hx)
def enc2 (b : A) (p : Int × Int) : Int := p.1 * (b.next.length : Int) + p.2
def fP (a b : A) (q x : Int) : Int := goA a (q / (b.next.length : Int)) x * (b.next.length : Int) + goA b (q % (b.next.length : Int)) x
def InP (a b : A) (q : Int) : Prop := 0 ≤ q ∧ q < ((a.next.length * b.next.length : Nat) : Int)
theorem inP_div {a b : A} {q : Int} (hv' : validA b = true) (h : InP a b q) : In2 a b (q / (b.next.length : Int), q % (b.next.length : Int)) := by
  have hb : 0 < (b.next.length : Int) := (zero_in hv').2
  refine ⟨⟨Int.ediv_nonneg h.1 (Int.le_of_lt hb), ?_⟩, Int.emod_nonneg _ (by omega), Int.emod_lt_of_pos _ hb⟩
  have h2 := h.2
  rw [Int.natCast_mul] at h2
  exact Int.ediv_lt_of_lt_mul hb h2
theorem inP_enc {a b : A} {p : Int × Int} (h : In2 a b p) : InP a b (enc2 b p) := by
  obtain ⟨⟨h1, h2⟩, h3, h4⟩ := h
  have hb : 0 ≤ (b.next.length : Int) := by omega
  have h5 : p.1 * (b.next.length : Int) ≤ ((a.next.length : Int) - 1) * (b.next.length : Int) := Int.mul_le_mul_of_nonneg_right (by omega) hb
  have h6 : 0 ≤ p.1 * (b.next.length : Int) := Int.mul_nonneg h1 hb
  unfold InP enc2
  rw [Int.natCast_mul]
  rw [Int.sub_mul] at h5
  omega
theorem enc_div {a b : A} {p : Int × Int} (h : In2 a b p) : enc2 b p / (b.next.length : Int) = p.1 ∧ enc2 b p % (b.next.length : Int) = p.2 := by
  obtain ⟨⟨h1, h2⟩, h3, h4⟩ := h
  have hb : 0 < (b.next.length : Int) := by omega
  unfold enc2
  constructor
  · rw [Int.add_comm, Int.add_mul_ediv_right _ _ (by omega), Int.ediv_eq_zero_of_lt h3 h4, Int.zero_add]
  · rw [Int.add_comm, Int.add_mul_emod_self_right, Int.emod_eq_of_lt h3 h4]
theorem fP_enc {a b : A} {p : Int × Int} (h : In2 a b p) (x : Int) : fP a b (enc2 b p) x = enc2 b (step2 a b p x) := by
  obtain ⟨h1, h2⟩ := enc_div h
  unfold fP
  rw [h1, h2]
  rfl
theorem fP_in {a b : A} (hv : validA a = true) (hv' : validA b = true) {q : Int} (h : InP a b q) {x : Int} (hx : 0 ≤ x ∧ x < 6) : InP a b (fP a b q x) :=
  inP_enc (p := (goA a (q / (b.next.length : Int)) x, goA b (q % (b.next.length : Int)) x)) (in2 hv hv' (inP_div hv' h) hx)
theorem enc_inj {a b : A} (p q : Int × Int) (hp : In2 a b p) (hq : In2 a b q) (e : enc2 b p = enc2 b q) : p = q := by
  have h1 := enc_div hp
  have h2 := enc_div hq
  rw [e] at h1
  ext
  · rw [← h1.1, h2.1]
  · rw [← h1.2, h2.2]
theorem fP_mul {a b : A} (hv : validA a = true) (hv' : validA b = true) {q : Int} (h : InP a b q) {x : Int} (hx : 0 ≤ x ∧ x < 6) : 0 ≤ goA a (q / (b.next.length : Int)) x * (b.next.length : Int) ∧ goA a (q / (b.next.length : Int)) x * (b.next.length : Int) ≤ 144 := by
  have h1 : 0 ≤ goA a (q / (b.next.length : Int)) x ∧ goA a (q / (b.next.length : Int)) x < a.next.length := goA_in hv (inP_div hv' h).1 hx
  have h2 := (validA_spec.1 hv).2.1
  have h3 := (validA_spec.1 hv').2.1
  refine ⟨Int.mul_nonneg h1.1 (by omega), ?_⟩
  have : goA a (q / (b.next.length : Int)) x * (b.next.length : Int) ≤ 12 * (b.next.length : Int) := Int.mul_le_mul_of_nonneg_right (by omega) (by omega)
  have h4 : (b.next.length : Int) ≤ 12 := by omega
  omega
end Go.Proofs.Ytoboklelbbgcnaa
set_option linter.unusedSimpArgs false
set_option linter.unusedVariables false
namespace Go.Proofs.Ytoboklelbbgcnaa
open Go.RowKit
def OwnRowsZ (w : World) (B U : Nat) (e e' : TypeId) (v : Value) (xss : List (List Int)) (z : Value) : Prop :=
  ∃ rs, Own w B e v rs ∧ rs.length = xss.length ∧ (∀ i r, rs[i]? = some r → Own w B e' r ((xss.getD i []).map (Value.int .i64)) ∧ ∀ k, r.ownBlock = some k → k < U ∧ z.ownBlock ≠ some k) ∧
    ∀ (i j : Nat) (r r' : Value), rs[i]? = some r → rs[j]? = some r' → i ≠ j → ∀ k, r.ownBlock = some k → r'.ownBlock ≠ some k
section
variable {w w' : World} {B U : Nat} {e e' : TypeId} {v z : Value} {xss : List (List Int)}
theorem OwnRowsZ.nil (w : World) (B U : Nat) (e e' : TypeId) (z : Value) : OwnRowsZ w B U e e' (.slice none 0 0) [] z := ⟨[], Own.nil _ _ _, rfl, by simp, by simp⟩
theorem OwnRowsZ.ext (h : OwnRowsZ w B U e e' v xss z) (x : Ext w w') : OwnRowsZ w' B U e e' v xss z := by
  obtain ⟨rs, h1, h2, h3, h4⟩ := h
  exact ⟨rs, h1.ext x, h2, fun i r hr => ⟨(h3 i r hr).1.ext x, (h3 i r hr).2⟩, h4⟩
theorem OwnRowsZ.up {U' : Nat} (h : OwnRowsZ w B U e e' v xss z) (hU : U ≤ U') : OwnRowsZ w B U' e e' v xss z := by
  obtain ⟨rs, h1, h2, h3, h4⟩ := h
  exact ⟨rs, h1, h2, fun i r hr => ⟨(h3 i r hr).1, fun k hk => ⟨Nat.lt_of_lt_of_le ((h3 i r hr).2 k hk).1 hU, ((h3 i r hr).2 k hk).2⟩⟩, h4⟩
theorem OwnRowsZ.now (h : OwnRowsZ w B U e e' v xss z) : OwnRowsZ w B w.heap.size e e' v xss z := by
  obtain ⟨rs, h1, h2, h3, h4⟩ := h
  exact ⟨rs, h1, h2, fun i r hr => ⟨(h3 i r hr).1, fun k hk => ⟨((h3 i r hr).1.lt k hk).2, ((h3 i r hr).2 k hk).2⟩⟩, h4⟩
theorem OwnRowsZ.apart {B' : Nat} {u : Value} {us : List Value} (h : OwnRowsZ w B U e e' v xss z) (ho : Own w B' e' u us) (hg : w.grownBy w' u.ownBlock) (hB : U ≤ B') (hne : e' ≠ e) : OwnRowsZ w' B U e e' v xss z := by
  obtain ⟨rs, h1, h2, h3, h4⟩ := h
  refine ⟨rs, h1.owned ho hg hne, h2, fun i r hr => ⟨(h3 i r hr).1.grown hg (fun k hk hc => ?_), (h3 i r hr).2⟩, h4⟩
  have := ((h3 i r hr).2 k hk).1
  have := (ho.lt k hc).1
  omega
theorem OwnRowsZ.open (h : OwnRowsZ w B U e e' v xss z) (hne : e ≠ e') : ∃ rs, Own w B e v rs ∧ rs.length = xss.length ∧
    ∀ r xs w1 v' w', Ext w w1 → Own w1 U e' r (xs.map (Value.int .i64)) → Apart z r → B ≤ U → Own w' B e v' (rs ++ [r]) → w1.grownBy w' v.ownBlock → OwnRowsZ w' B w'.heap.size e e' v' (xss ++ [xs]) z := by
  obtain ⟨rs, h1, h2, h3, h4⟩ := h
  refine ⟨rs, h1, h2, fun r xs w1 v' w' x hr ha hBU hv hg => ?_⟩
  have hv1 := h1.ext x
  have hr' := hr.owned hv1 hg hne
  have hrow : ∀ i q, (rs ++ [r])[i]? = some q → (rs[i]? = some q ∧ i < rs.length) ∨ (i = rs.length ∧ q = r) := by
    intro i q hq
    rw [List.getElem?_append] at hq
    split at hq
    · exact .inl ⟨hq, by assumption⟩
    · right
      have : i - rs.length = 0 := by
        rcases Nat.eq_zero_or_pos (i - rs.length) with h | h
        · exact h
        · rw [List.getElem?_eq_none (by simp; omega)] at hq; cases hq
      rw [this] at hq
      simp at hq
      exact ⟨by omega, hq.symm⟩
  refine ⟨rs ++ [r], hv, by simp [h2], fun i q hq => ?_, fun i j q q' hq hq' hij k hk hk' => ?_⟩
  · rcases hrow i q hq with ⟨hq, hlt⟩ | ⟨rfl, rfl⟩
    · have e1 : (xss ++ [xs]).getD i [] = xss.getD i [] := by
        simp [List.getElem?_append, show i < xss.length by omega]
      rw [e1]
      have ho := ((h3 i q hq).1.ext x).owned hv1 hg hne
      exact ⟨ho, fun k hk => ⟨(ho.lt k hk).2, ((h3 i q hq).2 k hk).2⟩⟩
    · have e1 : (xss ++ [xs]).getD rs.length [] = xs := by
        simp [List.getElem?_append, h2]
      rw [e1]
      exact ⟨hr'.mono hBU, fun k hk => ⟨(hr'.lt k hk).2, fun hc => ha k hc hk⟩⟩
  · rcases hrow i q hq with ⟨hq1, _⟩ | ⟨hi1, hq1⟩ <;> rcases hrow j q' hq' with ⟨hq2, _⟩ | ⟨hj1, hq2⟩
    · exact h4 i j q q' hq1 hq2 hij k hk hk'
    · have a1 := ((h3 i q hq1).2 k hk).1
      have a2 := (hr.lt k (hq2 ▸ hk')).1
      omega
    · have a1 := ((h3 j q' hq2).2 k hk').1
      have a2 := (hr.lt k (hq1 ▸ hk)).1
      omega
    · exact hij (by omega)
end
theorem notin_snoc {xs : List Int} {n : Int} {k : Nat} (hp : n ∉ xs.take k) (hk : k < xs.length) (hne : ¬ xs.getD k 0 = n) : n ∉ xs.take (k + 1) := by
  rw [take_snoc 0 hk]
  simp only [List.mem_append, List.mem_singleton, not_or]
  exact ⟨hp, fun h => hne h.symm⟩
theorem notin_done {xs : List Int} {n : Int} {k : Nat} (hp : n ∉ xs.take k) (hk : xs.length ≤ k) : n ∉ xs := by rwa [List.take_of_length_le hk] at hp
theorem Ints.low {w : World} {e : TypeId} {v : Value} {xs : List Int} (h : Ints w e v xs) (hx : 0 < xs.length) : ∀ k, v.ownBlock = some k → k < w.heap.size := by
  intro k hk
  rcases h with ⟨h0, _⟩ | ⟨b, o, c, cur, fr, rfl, hb, _⟩
  · rw [List.map_eq_nil_iff] at h0; subst h0; simp at hx
  · simp [Value.ownBlock] at hk
    subst hk
    exact lt_of_block hb
theorem getD_app {α : Type} {xs ys : List α} {d : α} {k : Nat} (h : k < xs.length) : (xs ++ ys).getD k d = xs.getD k d := by
  rw [List.getD_eq_getElem?_getD, List.getElem?_append_left h, ← List.getD_eq_getElem?_getD]
theorem Small.push2 {n m : Nat} {a : A} {row : List Int} {b : Bool} (h : Small n a) (hm : n + 1 ≤ m) (hr : row.length ≤ m) : Small m ⟨a.al, a.next ++ [row], a.acc ++ [b]⟩ := by
  have h1 := h.2.1
  have h2 := h.2.2.1
  refine ⟨h.1, by simp only [List.length_append, List.length_singleton]; omega, by simp only [List.length_append, List.length_singleton]; omega, fun r hr' => ?_⟩
  rcases List.mem_append.1 hr' with h3 | h3
  · have := h.2.2.2 r h3; omega
  · rw [List.mem_singleton.1 h3]; exact hr
theorem Small.accs {n m : Nat} {a : A} {ys : List Bool} (h : Small n a) (hm : n ≤ m) (hy : ys.length = a.acc.length) : Small m ⟨a.al, a.next, ys⟩ :=
  ⟨h.1, Nat.le_trans h.2.1 hm, by have := h.2.2.1; show ys.length ≤ m; omega, fun r hr => Nat.le_trans (h.2.2.2 r hr) hm⟩
theorem run_loadAgg {P : Program} {b n : Nat} {u : TypeId} {w : World} {cs : List Value} (hb : Blk w b u cs) (hn : cs.length = n) : (loadCells ⟨b, 0, none⟩ n).run P w = .ok cs.toArray w := by
  rw [← hn]
  refine run_loadCells_list _ _ _ fun j v hv => ?_
  rw [addr_add, hb.cell]
  simpa using hv
theorem Eq.retCC {P : Program} {fn : Func} {N t t' b b' n n' : Nat} {ty ty' u u' : TypeId} {l : Slots} {w : World} {cs cs' : List Value} {R : Value → World → Prop} (hr : fn.results = #[.cell t ty, .cell t' ty']) (hv : look l t = some (.pointer (some ⟨b, 0, none⟩))) (hv' : look l t' = some (.pointer (some ⟨b', 0, none⟩))) (h1 : Agg P ty n) (h1' : Agg P ty' n') (hb : Blk w b u cs) (hb' : Blk w b' u' cs') (hn : cs.length = n) (hn' : cs'.length = n') (h : R (.tuple #[.agg cs.toArray, .agg cs'.toArray]) w) :
    Eq N (bodyPost P fn fun e w' => ∃ v, e = .returned v ∧ R v w') .ret l w := fun a ha => by
  have hl := run_loadAgg (P := P) hb hn
  have hl' := run_loadAgg (P := P) hb' hn'
  have hs := ha.slot _ _ hv
  have hs' := ha.slot _ _ hv'
  refine bodyPost_ret (v := .tuple #[.agg cs.toArray, .agg cs'.toArray]) ?_ ha.defers ⟨_, rfl, h⟩
  simp only [results, hr]
  simp only [Array.getD_eq_getD_getElem?] at hs hs'
  simp [hs, hs', asAddr, loadVar, h1.agg, h1.size, h1'.agg, h1'.size, hl, hl']
section three
variable {P : Program} {N : Nat} {ops : Array Oper} {Q : Exit → Act → World → Prop} {S : World → Prop} {k fuel : Nat} {listed : Array Bool} {l : Slots} {w : World}
theorem Gq.three {o o' o'' : Oper} (i j m : Nat) (hi : ops[i]? = some o) (hj : ops[j]? = some o') (hm : ops[m]? = some o'') (hr : (Region.ready .any ops listed == [i, j, m]) = true) (h : Sq P N ops (AfterG P ops Q S k fuel i listed) [o] l w) (h' : Sq P N ops (AfterG P ops Q S k fuel j listed) [o'] l w) (h'' : Sq P N ops (AfterG P ops Q S k fuel m listed) [o''] l w) : Gq P N ops Q S k (fuel + 1) listed l w := by
  intro a ha
  have hr' : Region.ready .any ops listed = [i, j, m] := by simpa using hr
  refine ⟨fun h0 => absurd (hr' ▸ h0) (by simp), fun n hn => ?_⟩
  rw [hr'] at hn
  rcases List.mem_cons.1 hn with rfl | hn
  · exact wpOp_of_list (Q' := AfterG P ops Q S k fuel _ listed) hi (fun _ _ => rfl) (fun _ _ _ => rfl) (fun _ _ => rfl) (h a ha)
  · rcases List.mem_cons.1 hn with rfl | hn
    · exact wpOp_of_list (Q' := AfterG P ops Q S k fuel _ listed) hj (fun _ _ => rfl) (fun _ _ _ => rfl) (fun _ _ => rfl) (h' a ha)
    · obtain rfl : n = m := by simpa using hn
      exact wpOp_of_list (Q' := AfterG P ops Q S k fuel _ listed) hm (fun _ _ => rfl) (fun _ _ _ => rfl) (fun _ _ => rfl) (h'' a ha)
end three
def idxG {α : Type} [DecidableEq α] (ps : List α) (p : α) : Nat := ps.idxOf p
section wid2
variable {w : World} {B : Nat} {e : TypeId} {v : Value} {ps : List (Int × Int)}
theorem Wid.shape {n : Nat} {rows : List (List Value)} (h : Wid w B e n v rows) : ∃ p c, v = .slice p rows.length c := by
  rcases h.cases with ⟨rfl, rfl⟩ | ⟨g, cap, cs, rfl, _⟩
  · exact ⟨none, 0, rfl⟩
  · exact ⟨_, _, rfl⟩
end wid2
section wid3
variable {P : Program} {N : Nat} {ops : Array Oper} {Q : Exit → Act → World → Prop} {rest : List Oper} {l : Slots} {w : World}
variable {d : Nat} {ty : TypeId} {pos : String} {after : Array Edge} {g : Option (Nat × Bool)}
theorem Still.ixV {t e : TypeId} {z : Value} {n gb len c : Nat} {x ix : Operand} {k : IntKind} {i : Int} {v : Value} (hs : SlW P t e z n) (hv : v = .slice (some ⟨gb, 0, none⟩) len c) (hx : ev l x = some v) (hix : ev l ix = some (.int k i)) (hi : 0 ≤ i ∧ i < (len : Int)) :
    Still P N l ⟨some d, .indexAddr t x ix, ty, pos, after, g⟩ (.pointer (some ⟨gb, i.toNat * n, none⟩)) w := Still.ixW hs (by rw [hx, hv]) hix hi
theorem Sq.lenWid {t e : TypeId} {n B : Nat} {x : Operand} {v : Value} {rows : List (List Value)} (hr : Wid w B e n v rows) (hg : On ops l g) (hN : Nat.blt d N = true) (ht : P.underlying t = some (.slice (P.elem t))) (hx : ev l x = some v)
    (h : Sq P N ops Q rest ((d, .int .i64 rows.length) :: l) w) : Sq P N ops Q (⟨some d, .call ⟨.builtin .len, #[x], #[t]⟩, ty, pos, after, g⟩ :: rest) l w := by
  obtain ⟨p, c, rfl⟩ := hr.shape
  exact .len hg hN ht hx h
end wid3
theorem Wid.low {w : World} {B n : Nat} {e : TypeId} {v : Value} {rows : List (List Value)} (h : Wid w B e n v rows) : ∀ k, v.ownBlock = some k → k < w.heap.size := fun k hk => (h.lt k hk).2
theorem mul144 {a b : A} (hv : validA a = true) (hv' : validA b = true) : -9223372036854775808 ≤ (a.next.length : Int) * (b.next.length : Int) ∧ (a.next.length : Int) * (b.next.length : Int) ≤ 9223372036854775807 := by
  have h := le144 hv hv'
  have h2 : ((a.next.length * b.next.length : Nat) : Int) ≤ 144 := by omega
  rw [Int.natCast_mul] at h2
  have h3 : 0 ≤ (a.next.length : Int) * (b.next.length : Int) := Int.mul_nonneg (by omega) (by omega)
  omega
end Go.Proofs.Ytoboklelbbgcnaa
set_option linter.unusedSimpArgs false
set_option linter.unusedVariables false
namespace Go.Proofs.Ytoboklelbbgcnaa
def lexLt : List Int → List Int → Prop
  | [], [] => False
  | [], _ :: _ => True
  | _ :: _, [] => False
  | x :: v, y :: w => x < y ∨ (x = y ∧ lexLt v w)
def sl (v w : List Int) : Prop := v.length < w.length ∨ (v.length = w.length ∧ lexLt v w)
def sle (v w : List Int) : Prop := v = w ∨ sl v w
theorem lexLt_irrefl : ∀ v, ¬ lexLt v v
  | [] => id
  | x :: v => fun h => by
    rcases h with h | ⟨_, h⟩
    · omega
    · exact lexLt_irrefl v h
theorem lexLt_trans : ∀ {u v w : List Int}, lexLt u v → lexLt v w → lexLt u w
  | [], [], _, h, _ => h.elim
  | [], _ :: _, [], _, h => h.elim
  | [], _ :: _, _ :: _, _, _ => trivial
  | _ :: _, [], _, h, _ => h.elim
  | _ :: _, _ :: _, [], _, h => h.elim
  | x :: u, y :: v, z :: w, h, h' => by
    rcases h with h | ⟨rfl, h⟩
    · rcases h' with h' | ⟨rfl, h'⟩
      · exact .inl (by omega)
      · exact .inl h
    · rcases h' with h' | ⟨rfl, h'⟩
      · exact .inl h'
      · exact .inr ⟨rfl, lexLt_trans h h'⟩
theorem lexLt_snoc : ∀ {v w : List Int} (x y : Int), v.length = w.length → lexLt v w → lexLt (v ++ [x]) (w ++ [y])
  | [], [], _, _, _, h => h.elim
  | [], _ :: _, _, _, h, _ => by simp at h
  | _ :: _, [], _, _, h, _ => by simp at h
  | a :: v, b :: w, x, y, h, h' => by
    rcases h' with h' | ⟨rfl, h'⟩
    · exact .inl h'
    · exact .inr ⟨rfl, lexLt_snoc x y (by simpa using h) h'⟩
theorem lexLt_last : ∀ (v : List Int) {x y : Int}, x < y → lexLt (v ++ [x]) (v ++ [y])
  | [], _, _, h => .inl h
  | a :: v, _, _, h => .inr ⟨rfl, lexLt_last v h⟩
theorem sl_irrefl (v : List Int) : ¬ sl v v := fun h => h.elim (by omega) (fun h => lexLt_irrefl v h.2)
theorem sl_trans {u v w : List Int} (h : sl u v) (h' : sl v w) : sl u w := by
  rcases h with h | ⟨h1, h2⟩ <;> rcases h' with h' | ⟨h3, h4⟩
  · exact .inl (by omega)
  · exact .inl (by omega)
  · exact .inl (by omega)
  · exact .inr ⟨by omega, lexLt_trans h2 h4⟩
theorem sl_snoc {v w : List Int} (x y : Int) (h : sl v w) : sl (v ++ [x]) (w ++ [y]) := by
  rcases h with h | ⟨h1, h2⟩
  · exact .inl (by simpa using h)
  · exact .inr ⟨by simpa using h1, lexLt_snoc x y h1 h2⟩
theorem sl_last (v : List Int) {x y : Int} (h : x < y) : sl (v ++ [x]) (v ++ [y]) := .inr ⟨by simp, lexLt_last v h⟩
theorem sl_nil (v : List Int) (x : Int) : sl [] (v ++ [x]) := .inl (by simp)
theorem sle_trans {u v w : List Int} (h : sle u v) (h' : sle v w) : sle u w := by
  rcases h with rfl | h
  · exact h'
  · rcases h' with rfl | h'
    · exact .inr h
    · exact .inr (sl_trans h h')
theorem sle_antisymm {v w : List Int} (h : sle v w) (h' : sle w v) : v = w := by
  rcases h with h | h
  · exact h
  · rcases h' with h' | h'
    · exact h'.symm
    · exact absurd (sl_trans h h') (sl_irrefl v)
theorem sle_snoc {v w : List Int} (x : Int) (h : sle v w) : sle (v ++ [x]) (w ++ [x]) := by
  rcases h with rfl | h
  · exact .inl rfl
  · exact .inr (sl_snoc x x h)
def nodeOf {α : Type} (f : α → Int → α) (s : α) (w : List Int) : α := w.foldl f s
theorem nodeOf_snoc {α : Type} (f : α → Int → α) (s : α) (w : List Int) (x : Int) : nodeOf f s (w ++ [x]) = f (nodeOf f s w) x := by
  unfold nodeOf
  rw [List.foldl_append]
  rfl
section
variable {α : Type} [DecidableEq α]
def wadd (f : α → Int → α) (s : α) (ws : List (List Int)) (v : List Int) : List (List Int) := if nodeOf f s v ∈ ws.map (nodeOf f s) then ws else ws ++ [v]
def wround (f : α → Int → α) (s : α) (w : List Int) (ws : List (List Int)) (Ls : List Int) : List (List Int) := Ls.foldl (fun ws l => wadd f s ws (w ++ [l])) ws
def bfsw (f : α → Int → α) (s : α) (L : List Int) : Nat → List (List Int)
  | 0 => [[]]
  | i + 1 => match (bfsw f s L i)[i]? with
    | some w => wround f s w (bfsw f s L i) L
    | none => bfsw f s L i
variable {f : α → Int → α} {s : α} {L : List Int}
theorem wadd_map (ws : List (List Int)) (v : List Int) : (wadd f s ws v).map (nodeOf f s) = addNode (ws.map (nodeOf f s)) (nodeOf f s v) := by
  unfold wadd addNode
  split
  · rfl
  · rw [List.map_append]; rfl
theorem wround_map (w : List Int) : ∀ (Ls : List Int) (ws : List (List Int)), (wround f s w ws Ls).map (nodeOf f s) = addAll (ws.map (nodeOf f s)) (Ls.map (f (nodeOf f s w)))
  | [], ws => rfl
  | l :: Ls, ws => by
    show (wround f s w (wadd f s ws (w ++ [l])) Ls).map (nodeOf f s) = _
    rw [wround_map w Ls, wadd_map, nodeOf_snoc]
    rfl
theorem bfsw_map (i : Nat) : (bfsw f s L i).map (nodeOf f s) = bfs f s L i := by
  induction i with
  | zero => rfl
  | succ i ih =>
    rw [bfsw, bfs, ← ih, List.getElem?_map]
    cases hq : (bfsw f s L i)[i]? with
    | none => rfl
    | some w => exact wround_map w L _
theorem bfsw_length (i : Nat) : (bfsw f s L i).length = (bfs f s L i).length := by rw [← bfsw_map, List.length_map]
theorem wadd_prefix (ws : List (List Int)) (v : List Int) : ws <+: wadd f s ws v := by
  unfold wadd
  split
  · exact List.prefix_refl _
  · exact List.prefix_append _ _
theorem wadd_mem {ws : List (List Int)} {u v : List Int} (h : v ∈ wadd f s ws u) : v ∈ ws ∨ v = u := by
  unfold wadd at h
  split at h
  · exact .inl h
  · rcases List.mem_append.1 h with h | h
    · exact .inl h
    · exact .inr (List.mem_singleton.1 h)
theorem wadd_self {ws : List (List Int)} {u : List Int} (h : nodeOf f s u ∉ ws.map (nodeOf f s)) : u ∈ wadd f s ws u := by
  unfold wadd
  rw [if_neg h]
  simp
theorem wadd_sorted {ws : List (List Int)} {u : List Int} (h : ws.Pairwise sl) (hb : ∀ v ∈ ws, sl v u) : (wadd f s ws u).Pairwise sl := by
  unfold wadd
  split
  · exact h
  · refine List.pairwise_append.2 ⟨h, by simp, fun v hv u' hu => ?_⟩
    rw [List.mem_singleton.1 hu]
    exact hb v hv
theorem wround_prefix (w : List Int) : ∀ (Ls : List Int) (ws : List (List Int)), ws <+: wround f s w ws Ls
  | [], ws => List.prefix_refl _
  | l :: Ls, ws => (wadd_prefix ws (w ++ [l])).trans (wround_prefix w Ls _)
theorem bfsw_prefix1 (i : Nat) : bfsw f s L i <+: bfsw f s L (i + 1) := by
  rw [bfsw]
  split
  · exact wround_prefix _ _ _
  · exact List.prefix_refl _
theorem wround_mem (w : List Int) : ∀ (Ls : List Int) (ws : List (List Int)) {v : List Int}, v ∈ wround f s w ws Ls → v ∈ ws ∨ ∃ l ∈ Ls, v = w ++ [l]
  | [], ws, v, h => .inl h
  | l :: Ls, ws, v, h => by
    rcases wround_mem w Ls (wadd f s ws (w ++ [l])) h with h1 | ⟨l', h1, h2⟩
    · rcases wadd_mem h1 with h1 | h1
      · exact .inl h1
      · exact .inr ⟨l, by simp, h1⟩
    · exact .inr ⟨l', by simp [h1], h2⟩
theorem wround_sorted (w : List Int) : ∀ (Ls : List Int) (ws : List (List Int)), Ls.Pairwise (· < ·) → ws.Pairwise sl → (∀ v ∈ ws, ∀ l ∈ Ls, sl v (w ++ [l])) → (wround f s w ws Ls).Pairwise sl
  | [], ws, _, h, _ => h
  | l :: Ls, ws, hL, h, hb => by
    obtain ⟨h1, h2⟩ := List.pairwise_cons.1 hL
    refine wround_sorted w Ls (wadd f s ws (w ++ [l])) h2 (wadd_sorted h fun v hv => hb v hv l (by simp)) ?_
    intro v hv l' hl'
    rcases wadd_mem hv with hv | rfl
    · exact hb v hv l' (by simp [hl'])
    · exact sl_last w (h1 l' hl')
theorem wround_cover (w : List Int) : ∀ (Ls : List Int) (ws : List (List Int)), Ls.Pairwise (· < ·) → (∀ v ∈ ws, ∀ l ∈ Ls, sl v (w ++ [l])) → ∀ l ∈ Ls, ∃ v ∈ wround f s w ws Ls, nodeOf f s v = nodeOf f s (w ++ [l]) ∧ sle v (w ++ [l])
  | [], ws, _, _, l, hl => by cases hl
  | l0 :: Ls, ws, hL, hb, l, hl => by
    obtain ⟨h1, h2⟩ := List.pairwise_cons.1 hL
    have hb' : ∀ v ∈ wadd f s ws (w ++ [l0]), ∀ l ∈ Ls, sl v (w ++ [l]) := by
      intro v hv l' hl'
      rcases wadd_mem hv with hv | rfl
      · exact hb v hv l' (by simp [hl'])
      · exact sl_last w (h1 l' hl')
    rcases List.mem_cons.1 hl with rfl | hl
    · by_cases hin : nodeOf f s (w ++ [l]) ∈ ws.map (nodeOf f s)
      · obtain ⟨v, hv, e⟩ := List.mem_map.1 hin
        exact ⟨v, (wround_prefix w (l :: Ls) ws).subset hv, e, .inr (hb v hv l (by simp))⟩
      · exact ⟨w ++ [l], (wround_prefix w Ls (wadd f s ws (w ++ [l]))).subset (wadd_self hin), rfl, .inl rfl⟩
    · exact wround_cover w Ls (wadd f s ws (w ++ [l0])) h2 hb' l hl
theorem bfsw_inv (hL : L.Pairwise (· < ·)) (i : Nat) : (bfsw f s L i).Pairwise sl ∧ (∀ w, (bfsw f s L i)[i]? = some w → ∀ v ∈ bfsw f s L i, ∀ x, sl v (w ++ [x])) ∧
    (∀ j w, j < i → (bfsw f s L i)[j]? = some w → ∀ l ∈ L, ∃ v ∈ bfsw f s L i, nodeOf f s v = nodeOf f s (w ++ [l]) ∧ sle v (w ++ [l])) ∧ ∀ v ∈ bfsw f s L i, (∀ x ∈ v, x ∈ L) ∧ (v = [] ∨ ∃ u ∈ bfsw f s L i, ∃ l ∈ L, v = u ++ [l]) := by
  induction i with
  | zero =>
    refine ⟨by simp [bfsw], fun w hw v hv x => ?_, fun j w hj => by omega, fun v hv => ?_⟩
    · simp only [bfsw, List.mem_singleton] at hv
      subst hv
      exact sl_nil w x
    · simp only [bfsw, List.mem_singleton] at hv
      subst hv
      exact ⟨by simp, .inl rfl⟩
  | succ i ih =>
    obtain ⟨h1, h2, h3, h4⟩ := ih
    have hp := bfsw_prefix1 (f := f) (s := s) (L := L) i
    cases hq : (bfsw f s L i)[i]? with
    | none =>
      have e : bfsw f s L (i + 1) = bfsw f s L i := by rw [bfsw, hq]
      have hl : (bfsw f s L i).length ≤ i := by
        rcases Nat.lt_or_ge i (bfsw f s L i).length with h | h
        · rw [List.getElem?_eq_getElem h] at hq; cases hq
        · exact h
      rw [e]
      refine ⟨h1, fun w hw => ?_, fun j w hj hw => ?_, h4⟩
      · rw [List.getElem?_eq_none (by omega)] at hw; cases hw
      · rcases Nat.lt_or_ge j i with h | h
        · exact h3 j w h hw
        · rw [List.getElem?_eq_none (by omega)] at hw; cases hw
    | some w =>
      have e : bfsw f s L (i + 1) = wround f s w (bfsw f s L i) L := by rw [bfsw, hq]
      have hb := h2 w hq
      have hi := (List.getElem?_eq_some_iff.1 hq).1
      have hs : (bfsw f s L (i + 1)).Pairwise sl := by rw [e]; exact wround_sorted w L _ hL h1 (fun v hv l _ => hb v hv l)
      have hat : ∀ j, j < (bfsw f s L i).length → (bfsw f s L (i + 1))[j]? = (bfsw f s L i)[j]? := by
        intro j hj
        obtain ⟨t, ht⟩ := hp
        rw [← ht, List.getElem?_append_left hj]
      have hwi : (bfsw f s L (i + 1))[i]? = some w := by rw [hat i hi, hq]
      have hmem : ∀ v ∈ bfsw f s L (i + 1), v ∈ bfsw f s L i ∨ ∃ l ∈ L, v = w ++ [l] := fun v hv => by rw [e] at hv; exact wround_mem w L _ hv
      refine ⟨hs, fun w' hw' v hv x => ?_, fun j u hj hu l hl => ?_, fun v hv => ?_⟩
      · have hlt : sl w w' := by
          obtain ⟨g1, g2⟩ := List.getElem?_eq_some_iff.1 hwi
          obtain ⟨g3, g4⟩ := List.getElem?_eq_some_iff.1 hw'
          rw [← g2, ← g4]
          exact List.pairwise_iff_getElem.1 hs i (i + 1) g1 g3 (by omega)
        rcases hmem v hv with h | ⟨l, hl, rfl⟩
        · exact sl_trans (hb v h x) (sl_snoc x x hlt)
        · exact sl_snoc l x hlt
      · rcases Nat.lt_or_ge j i with h | h
        · rw [hat j (by omega)] at hu
          obtain ⟨v, g1, g2, g3⟩ := h3 j u h hu l hl
          exact ⟨v, hp.subset g1, g2, g3⟩
        · obtain rfl : j = i := by omega
          rw [hwi] at hu
          obtain rfl := Option.some.inj hu
          obtain ⟨v, g1, g2, g3⟩ := wround_cover (f := f) (s := s) w L _ hL (fun v hv l _ => hb v hv l) l hl
          exact ⟨v, by rw [e]; exact g1, g2, g3⟩
      · rcases hmem v hv with h | ⟨l, hl, rfl⟩
        · refine ⟨(h4 v h).1, ?_⟩
          rcases (h4 v h).2 with h5 | ⟨u, h5, l, h6, h7⟩
          · exact .inl h5
          · exact .inr ⟨u, hp.subset h5, l, h6, h7⟩
        · have hw := List.mem_of_getElem? hq
          refine ⟨fun x hx => ?_, .inr ⟨w, hp.subset hw, l, hl, rfl⟩⟩
          rcases List.mem_append.1 hx with h | h
          · exact (h4 w hw).1 x h
          · rw [List.mem_singleton.1 h]; exact hl
def ordw (f : α → Int → α) (s : α) (L : List Int) : List (List Int) := bfsw f s L (many 0)
theorem ordw_length : (ordw f s L).length = (ord f s L).length := bfsw_length _
theorem ordw_sorted (hL : L.Pairwise (· < ·)) : (ordw f s L).Pairwise sl := (bfsw_inv hL _).1
theorem ordw_over (hL : L.Pairwise (· < ·)) {v : List Int} (hv : v ∈ ordw f s L) : ∀ x ∈ v, x ∈ L := ((bfsw_inv hL _).2.2.2 v hv).1
theorem ordw_parent (hL : L.Pairwise (· < ·)) {u : List Int} {l : Int} (hv : u ++ [l] ∈ ordw f s L) : u ∈ ordw f s L := by
  rcases ((bfsw_inv hL _).2.2.2 _ hv).2 with h | ⟨u', h1, l', _, h3⟩
  · simp at h
  · have := List.append_inj' h3 rfl
    rw [this.1]; exact h1
theorem ordw_nil : [] ∈ ordw f s L := by
  have : ∀ i, [] ∈ bfsw f s L i := by
    intro i
    induction i with
    | zero => simp [bfsw]
    | succ i ih => exact (bfsw_prefix1 i).subset ih
  exact this _
theorem ordw_cover (hL : L.Pairwise (· < ·)) (hlen : (ord f s L).length ≤ 200) : ∀ (n : Nat) (v : List Int), v.length = n → (∀ x ∈ v, x ∈ L) → ∃ w ∈ ordw f s L, nodeOf f s w = nodeOf f s v ∧ sle w v := by
  intro n
  induction n with
  | zero =>
    intro v hv _
    obtain rfl := List.eq_nil_of_length_eq_zero hv
    exact ⟨[], ordw_nil, rfl, .inl rfl⟩
  | succ n ih =>
    intro v hv hx
    rcases List.eq_nil_or_concat v with rfl | ⟨u, l, rfl⟩
    · simp at hv
    · rw [List.concat_eq_append] at hv hx ⊢
      obtain ⟨w, h1, h2, h3⟩ := ih u (by simpa using hv) (fun x h => hx x (by simp [h]))
      obtain ⟨j, hj, hw⟩ := List.mem_iff_getElem.1 h1
      have hj2 : j < many 0 := by
        have := ordw_length (f := f) (s := s) (L := L)
        rw [many_eq]
        omega
      obtain ⟨w', g1, g2, g3⟩ := (bfsw_inv (f := f) (s := s) hL (many 0)).2.2.1 j w hj2 (by rw [← hw]; exact List.getElem?_eq_getElem hj) l (hx l (by simp))
      refine ⟨w', g1, ?_, sle_trans g3 (sle_snoc l h3)⟩
      rw [g2, nodeOf_snoc, nodeOf_snoc, h2]
def firstOf (f : α → Int → α) (s : α) (L : List Int) (G : α → Bool) : Option (List Int) := (ordw f s L).find? fun w => G (nodeOf f s w)
theorem first_some (hL : L.Pairwise (· < ·)) (hlen : (ord f s L).length ≤ 200) {G : α → Bool} {w : List Int} (h : firstOf f s L G = some w) : w ∈ ordw f s L ∧ G (nodeOf f s w) = true ∧ ∀ v : List Int, (∀ x ∈ v, x ∈ L) → G (nodeOf f s v) = true → sle w v := by
  obtain ⟨hg, aas, bs, e, has⟩ := List.find?_eq_some_iff_append.1 h
  refine ⟨List.mem_of_find?_eq_some h, hg, fun v hv hgv => ?_⟩
  obtain ⟨w', h1, h2, h3⟩ := ordw_cover hL hlen _ v rfl hv
  refine sle_trans ?_ h3
  rw [e] at h1
  rcases List.mem_append.1 h1 with h1 | h1
  · have := has w' h1
    rw [h2, hgv] at this
    simp at this
  · rcases List.mem_cons.1 h1 with rfl | h1
    · exact .inl rfl
    · have hs := ordw_sorted (f := f) (s := s) hL
      rw [e] at hs
      exact .inr ((List.pairwise_cons.1 (List.pairwise_append.1 hs).2.1).1 w' h1)
theorem first_none (hL : L.Pairwise (· < ·)) (hlen : (ord f s L).length ≤ 200) {G : α → Bool} (h : firstOf f s L G = none) : ∀ v : List Int, (∀ x ∈ v, x ∈ L) → G (nodeOf f s v) = false := by
  intro v hv
  obtain ⟨w', h1, h2, _⟩ := ordw_cover hL hlen _ v rfl hv
  have := List.find?_eq_none.1 h w' h1
  rw [h2] at this
  simpa using this
theorem first_eq (hL : L.Pairwise (· < ·)) (hlen : (ord f s L).length ≤ 200) {G : α → Bool} {w : List Int} (hw : ∀ x ∈ w, x ∈ L) (hg : G (nodeOf f s w) = true) (hm : ∀ v : List Int, (∀ x ∈ v, x ∈ L) → G (nodeOf f s v) = true → sle w v) : firstOf f s L G = some w := by
  cases h : firstOf f s L G with
  | none =>
    have := first_none hL hlen h w hw
    rw [hg] at this; cases this
  | some u =>
    obtain ⟨h1, h2, h3⟩ := first_some hL hlen h
    rw [sle_antisymm (h3 w hw hg) (hm u (ordw_over hL h1) h2)]
theorem first_no (hL : L.Pairwise (· < ·)) (hlen : (ord f s L).length ≤ 200) {G : α → Bool} (hm : ∀ v : List Int, (∀ x ∈ v, x ∈ L) → G (nodeOf f s v) = false) : firstOf f s L G = none := by
  cases h : firstOf f s L G with
  | none => rfl
  | some u =>
    obtain ⟨h1, h2, h3⟩ := first_some hL hlen h
    rw [hm u (ordw_over hL h1)] at h2; cases h2
theorem ordw_take (hL : L.Pairwise (· < ·)) : ∀ (n : Nat) {v : List Int}, v ∈ ordw f s L → v.length - n ≤ v.length → v.take (v.length - n) ∈ ordw f s L := by
  intro n
  induction n with
  | zero => intro v hv _; rw [Nat.sub_zero, List.take_length]; exact hv
  | succ n ih =>
    intro v hv _
    have h := ih hv (by omega)
    rcases Nat.lt_or_ge n v.length with hlt | hge
    · have e : v.take (v.length - n) = v.take (v.length - (n + 1)) ++ [v[v.length - (n + 1)]] := by
        have h9 : v.length - n = (v.length - (n + 1)) + 1 := by omega
        rw [h9, List.take_succ_eq_append_getElem (by omega)]
      rw [e] at h
      exact ordw_parent hL h
    · rw [show v.length - (n + 1) = v.length - n by omega]; exact h
theorem ordw_pre (hL : L.Pairwise (· < ·)) {v : List Int} (hv : v ∈ ordw f s L) (k : Nat) : v.take k ∈ ordw f s L := by
  rcases Nat.lt_or_ge k v.length with h | h
  · have := ordw_take hL (v.length - k) hv (by omega)
    rwa [show v.length - (v.length - k) = k by omega] at this
  · rw [List.take_of_length_le h]; exact hv
theorem ordw_short (hL : L.Pairwise (· < ·)) {v : List Int} (hv : v ∈ ordw f s L) : v.length + 1 ≤ (ord f s L).length := by
  rw [← ordw_length]
  have h := nodup_len (xs := (List.range (v.length + 1)).map fun k => v.take k) (U := ordw f s L) (by
    refine List.pairwise_map.2 (List.Pairwise.imp_of_mem ?_ List.pairwise_lt_range)
    intro a b ha hb hab e
    have h1 := congrArg List.length e
    rw [List.length_take, List.length_take] at h1
    have := List.mem_range.1 hb
    omega) (fun q hq => by
    obtain ⟨k, _, rfl⟩ := List.mem_map.1 hq
    exact ordw_pre hL hv k)
  simpa using h
end
theorem letters_sorted (b : Int) : (letters b).Pairwise (· < ·) := by
  unfold letters lettersTo
  refine List.Pairwise.filter _ ?_
  refine List.pairwise_map.2 (List.Pairwise.imp ?_ List.pairwise_lt_range)
  intro x y h
  omega
end Go.Proofs.Ytoboklelbbgcnaa
set_option linter.unusedSimpArgs false
set_option linter.unusedVariables false
namespace Go.Proofs.Ytoboklelbbgcnaa
section
variable {α : Type}
def lev (f : α → Int → α) (L : List Int) (G : α → Bool) : Nat → α → Bool
  | 0, q => G q
  | n + 1, q => L.any fun l => lev f L G n (f q l)
variable {f : α → Int → α} {L : List Int} {G : α → Bool}
theorem lev_iff : ∀ {n : Nat} {q : α}, lev f L G n q = true ↔ ∃ w : List Int, w.length = n ∧ (∀ x ∈ w, x ∈ L) ∧ G (nodeOf f q w) = true
  | 0, q => by
    constructor
    · intro h; exact ⟨[], rfl, by simp, h⟩
    · rintro ⟨w, hw, _, h⟩
      obtain rfl := List.eq_nil_of_length_eq_zero hw
      exact h
  | n + 1, q => by
    rw [lev, List.any_eq_true]
    constructor
    · rintro ⟨l, hl, h⟩
      obtain ⟨w, h1, h2, h3⟩ := lev_iff.1 h
      exact ⟨l :: w, by simp [h1], fun x hx => (List.mem_cons.1 hx).elim (fun h => h ▸ hl) (h2 x), h3⟩
    · rintro ⟨w, hw, hx, h⟩
      cases w with
      | nil => simp at hw
      | cons l w => exact ⟨l, hx l (by simp), lev_iff.2 ⟨w, by simpa using hw, fun x h => hx x (by simp [h]), h⟩⟩
def disTo (f : α → Int → α) (L : List Int) (G : α → Bool) (d : Nat) (q : α) : Int := match (List.range (d + 1)).find? (fun n => lev f L G n q) with
  | some n => (n : Int)
  | none => -1
theorem find_range {p : Nat → Bool} {d n : Nat} : (List.range (d + 1)).find? p = some n ↔ n ≤ d ∧ p n = true ∧ ∀ m, m < n → p m = false := by
  rw [List.find?_range_eq_some]
  simp only [List.mem_range, Bool.not_eq_eq_eq_not, Bool.not_true]
  constructor
  · rintro ⟨h1, h2, h3⟩; exact ⟨by omega, h1, h3⟩
  · rintro ⟨h1, h2, h3⟩; exact ⟨h2, by omega, h3⟩
theorem disTo_eq {d n : Nat} {q : α} : disTo f L G d q = (n : Int) ↔ n ≤ d ∧ lev f L G n q = true ∧ ∀ m, m < n → lev f L G m q = false := by
  unfold disTo
  rw [← find_range (p := fun n => lev f L G n q)]
  cases (List.range (d + 1)).find? (fun n => lev f L G n q) with
  | none => simp
  | some m =>
    constructor
    · intro h
      have : m = n := Int.ofNat.inj h
      rw [this]
    · intro h
      rw [Option.some.inj h]
theorem disTo_neg {d : Nat} {q : α} : disTo f L G d q = -1 ↔ ∀ n, n ≤ d → lev f L G n q = false := by
  unfold disTo
  cases h : (List.range (d + 1)).find? (fun n => lev f L G n q) with
  | none =>
    have := List.find?_eq_none.1 h
    simp only [List.mem_range, true_iff]
    intro n hn
    simpa using this n (List.mem_range.2 (by omega))
  | some m =>
    have := (find_range (p := fun n => lev f L G n q)).1 h
    constructor
    · intro hc; simp at hc
    · intro hc
      rw [hc m this.1] at this
      simp at this
theorem disTo_cases (d : Nat) (q : α) : disTo f L G d q = -1 ∨ ∃ n : Nat, disTo f L G d q = (n : Int) ∧ n ≤ d := by
  unfold disTo
  cases h : (List.range (d + 1)).find? (fun n => lev f L G n q) with
  | none => exact .inl rfl
  | some m => exact .inr ⟨m, rfl, ((find_range (p := fun n => lev f L G n q)).1 h).1⟩
theorem disTo_zero {q : α} : disTo f L G 0 q = if G q then 0 else -1 := by
  by_cases h : G q = true
  · rw [if_pos h]
    show disTo f L G 0 q = ((0 : Nat) : Int)
    exact disTo_eq.2 ⟨Nat.le_refl _, h, fun m hm => by omega⟩
  · rw [if_neg h]
    exact disTo_neg.2 fun n hn => by rw [Nat.le_zero.1 hn]; simpa [lev] using h
def near (f : α → Int → α) (L : List Int) (G : α → Bool) (d : Nat) (q : α) : Bool := L.any fun l => decide (disTo f L G d (f q l) = (d : Int))
theorem disTo_old {d : Nat} {q : α} (h : 0 ≤ disTo f L G d q) : disTo f L G (d + 1) q = disTo f L G d q := by
  rcases disTo_cases (f := f) (L := L) (G := G) d q with h1 | ⟨n, h1, h2⟩
  · omega
  · rw [h1]
    have := disTo_eq.1 h1
    exact disTo_eq.2 ⟨by omega, this.2⟩
theorem disTo_new {d : Nat} {q : α} (h : disTo f L G d q < 0) (hn : near f L G d q = true) : disTo f L G (d + 1) q = ((d + 1 : Nat) : Int) := by
  rcases disTo_cases (f := f) (L := L) (G := G) d q with h1 | ⟨n, h1, _⟩
  · have h2 := disTo_neg.1 h1
    obtain ⟨l, hl, h3⟩ := List.any_eq_true.1 hn
    have h4 := disTo_eq.1 (of_decide_eq_true h3)
    exact disTo_eq.2 ⟨Nat.le_refl _, List.any_eq_true.2 ⟨l, hl, h4.2.1⟩, fun m hm => h2 m (by omega)⟩
  · omega
theorem disTo_far {d : Nat} {q : α} (h : disTo f L G d q < 0) (hn : near f L G d q = false) : disTo f L G (d + 1) q = -1 := by
  rcases disTo_cases (f := f) (L := L) (G := G) d q with h1 | ⟨n, h1, _⟩
  · have h2 := disTo_neg.1 h1
    refine disTo_neg.2 fun n hle => ?_
    rcases Nat.lt_or_ge n (d + 1) with h3 | h3
    · exact h2 n (by omega)
    · obtain rfl : n = d + 1 := by omega
      cases hl : lev f L G (d + 1) q with
      | false => rfl
      | true =>
        obtain ⟨l, hl1, hl2⟩ := List.any_eq_true.1 hl
        have : near f L G d q = true := List.any_eq_true.2 ⟨l, hl1, decide_eq_true (disTo_eq.2 ⟨Nat.le_refl _, hl2, fun m hm => by
          cases hm2 : lev f L G m (f q l) with
          | false => rfl
          | true =>
            have h5 : lev f L G (m + 1) q = true := List.any_eq_true.2 ⟨l, hl1, hm2⟩
            rw [h2 (m + 1) (by omega)] at h5
            cases h5⟩)⟩
        rw [hn] at this; cases this
  · omega
theorem lev_stop {P : α → Prop} (hP : ∀ q, P q → ∀ l ∈ L, P (f q l)) {d : Nat} (h : ∀ q, P q → disTo f L G (d + 1) q = disTo f L G d q) : ∀ (n : Nat) (q : α), P q → lev f L G n q = true → ∃ m, m ≤ d ∧ lev f L G m q = true := by
  intro n
  induction n with
  | zero => intro q _ hl; exact ⟨0, Nat.zero_le _, hl⟩
  | succ n ih =>
    intro q hq hl
    obtain ⟨l, hl1, hl2⟩ := List.any_eq_true.1 hl
    obtain ⟨m, hm, hm2⟩ := ih (f q l) (hP q hq l hl1) hl2
    have h5 : lev f L G (m + 1) q = true := List.any_eq_true.2 ⟨l, hl1, hm2⟩
    rcases Nat.lt_or_ge m d with h6 | h6
    · exact ⟨m + 1, by omega, h5⟩
    · obtain rfl : m = d := by omega
      rcases disTo_cases (f := f) (L := L) (G := G) m q with h7 | ⟨k, h7, h8⟩
      · rw [← h q hq] at h7
        rw [disTo_neg.1 h7 (m + 1) (Nat.le_refl _)] at h5
        cases h5
      · exact ⟨k, h8, (disTo_eq.1 h7).2.1⟩
def gre (f : α → Int → α) (L : List Int) (dis : α → Int) : Nat → α → List Int
  | 0, _ => []
  | n + 1, q => match L.find? (fun l => decide (dis (f q l) = (n : Int))) with
    | some l => l :: gre f L dis n (f q l)
    | none => []
theorem sorted_find {L : List Int} (hL : L.Pairwise (· < ·)) {p : Int → Bool} {l l' : Int} (h : L.find? p = some l) (hl : l' ∈ L) (hp : p l' = true) : l = l' ∨ l < l' := by
  obtain ⟨_, aas, bs, e, has⟩ := List.find?_eq_some_iff_append.1 h
  subst e
  rcases List.mem_append.1 hl with h1 | h1
  · have := has l' h1
    rw [hp] at this; cases this
  · rcases List.mem_cons.1 h1 with rfl | h1
    · exact .inl rfl
    · exact .inr ((List.pairwise_cons.1 (List.pairwise_append.1 hL).2.1).1 l' h1)
theorem gre_least (hL : L.Pairwise (· < ·)) {d : Nat} : ∀ (n : Nat) (q : α), disTo f L G d q = (n : Int) → ((gre f L (disTo f L G d) n q).length = n ∧ (∀ x ∈ gre f L (disTo f L G d) n q, x ∈ L) ∧ G (nodeOf f q (gre f L (disTo f L G d) n q)) = true) ∧
    ∀ v : List Int, v.length = n → (∀ x ∈ v, x ∈ L) → G (nodeOf f q v) = true → sle (gre f L (disTo f L G d) n q) v
  | 0, q, h => by
    have h1 := disTo_eq.1 h
    refine ⟨⟨rfl, by simp [gre], h1.2.1⟩, fun v hv _ _ => ?_⟩
    obtain rfl := List.eq_nil_of_length_eq_zero hv
    exact .inl rfl
  | n + 1, q, h => by
    have h1 := disTo_eq.1 h
    have key : ∀ l, l ∈ L → lev f L G n (f q l) = true → disTo f L G d (f q l) = (n : Int) := fun l hl hl2 => disTo_eq.2 ⟨by omega, hl2, fun m hm => by
      cases hm2 : lev f L G m (f q l) with
      | false => rfl
      | true =>
        have h5 : lev f L G (m + 1) q = true := List.any_eq_true.2 ⟨l, hl, hm2⟩
        rw [h1.2.2 (m + 1) (by omega)] at h5
        cases h5⟩
    obtain ⟨l1, hl1, hl2⟩ := List.any_eq_true.1 h1.2.1
    cases hf : L.find? (fun l => decide (disTo f L G d (f q l) = (n : Int))) with
    | none =>
      have := List.find?_eq_none.1 hf l1 hl1
      rw [key l1 hl1 hl2] at this
      simp at this
    | some l =>
      have e : gre f L (disTo f L G d) (n + 1) q = l :: gre f L (disTo f L G d) n (f q l) := by rw [gre, hf]
      have hld : disTo f L G d (f q l) = (n : Int) := by simpa using List.find?_some hf
      obtain ⟨⟨g1, g2, g3⟩, g4⟩ := gre_least hL n (f q l) hld
      rw [e]
      refine ⟨⟨by simp [g1], fun x hx => (List.mem_cons.1 hx).elim (fun h => h ▸ List.mem_of_find?_eq_some hf) (g2 x), g3⟩, fun v hv hx hg => ?_⟩
      cases v with
      | nil => simp at hv
      | cons l' v =>
        have hlv : lev f L G n (f q l') = true := lev_iff.2 ⟨v, by simpa using hv, fun x h => hx x (by simp [h]), hg⟩
        have hl' := hx l' (by simp)
        rcases sorted_find hL hf hl' (decide_eq_true (key l' hl' hlv)) with rfl | hlt
        · rcases g4 v (by simpa using hv) (fun x h => hx x (by simp [h])) hg with h6 | h6
          · exact .inl (by rw [h6])
          · refine .inr (.inr ⟨by simp [g1]; simpa using hv.symm, .inr ⟨rfl, ?_⟩⟩)
            rcases h6 with h6 | h6
            · have : v.length = n := by simpa using hv
              omega
            · exact h6.2
        · exact .inr (.inr ⟨by simp [g1]; simpa using hv.symm, .inl hlt⟩)
theorem first_gre [DecidableEq α] {s : α} (hL : L.Pairwise (· < ·)) (hlen : (ord f s L).length ≤ 200) {P : α → Prop} (hP : ∀ q, P q → ∀ l ∈ L, P (f q l)) (hs : P s) {d : Nat} (h : ∀ q, P q → disTo f L G (d + 1) q = disTo f L G d q) :
    firstOf f s L G = if 0 ≤ disTo f L G d s then some (gre f L (disTo f L G d) (disTo f L G d s).toNat s) else none := by
  rcases disTo_cases (f := f) (L := L) (G := G) d s with h1 | ⟨n, h1, h2⟩
  · rw [if_neg (by omega)]
    refine first_no hL hlen fun v hv => ?_
    cases hg : G (nodeOf f s v) with
    | false => rfl
    | true =>
      obtain ⟨m, hm, hm2⟩ := lev_stop hP h v.length s hs (lev_iff.2 ⟨v, rfl, hv, hg⟩)
      rw [disTo_neg.1 h1 m hm] at hm2
      cases hm2
  · rw [if_pos (by omega), h1, Int.toNat_natCast]
    obtain ⟨⟨g1, g2, g3⟩, g4⟩ := gre_least hL n s h1
    refine first_eq hL hlen g2 g3 fun v hv hg => ?_
    have h3 := disTo_eq.1 h1
    rcases Nat.lt_trichotomy v.length n with h4 | h4 | h4
    · have := h3.2.2 v.length h4
      rw [lev_iff.2 ⟨v, rfl, hv, hg⟩] at this
      cases this
    · exact g4 v h4 hv hg
    · exact .inr (.inl (by omega))
end
end Go.Proofs.Ytoboklelbbgcnaa
set_option linter.unusedSimpArgs false
set_option linter.unusedVariables false
namespace Go.Proofs.Ytoboklelbbgcnaa
open Go.RowKit
def txb (w : List Int) : List UInt8 := w.map fun x => UInt8.ofNat (97 + x).toNat
def txt (w : List Int) : ByteArray := ⟨(txb w).toArray⟩
theorem txt_snoc (w : List Int) (x : Int) : txt (w ++ [x]) = txt w ++ chr x := by
  apply ByteArray.ext
  simp [txt, txb, chr]
theorem txb_rev (w : List Int) : (txb w.reverse).reverse = txb w := by simp [txb]
theorem txt_size (w : List Int) : (txt w).size = w.length := by simp [txt, txb, ByteArray.size]
def stepV (r : Int × Int × Value) : List Value := [.int .i64 r.1, .int .i64 r.2.1, r.2.2]
def rows3 (rs : List (Int × Int × Value)) : List (List Value) := rs.map stepV
theorem rows3_length (rs : List (Int × Int × Value)) : (rows3 rs).length = rs.length := List.length_map _
theorem rows3_snoc (rs : List (Int × Int × Value)) (r : Int × Int × Value) : rows3 (rs ++ [r]) = rows3 rs ++ [[.int .i64 r.1, .int .i64 r.2.1, r.2.2]] := by simp [rows3, stepV]
section
variable {w w' : World} {B : Nat} {e : TypeId} {v : Value} {rs : List (Int × Int × Value)}
theorem Wid.triple (h : Wid w B e 3 v (rows3 rs)) {i : Int} {r : Int × Int × Value} (h0 : 0 ≤ i) (hr : rs[i.toNat]? = some r) : ∃ g c, v = .slice (some ⟨g, 0, none⟩) rs.length c ∧ (i.toNat < rs.length) ∧ w.cell? ⟨g, i.toNat * 3 + 0, none⟩ = some (.int .i64 r.1) ∧ w.cell? ⟨g, i.toNat * 3 + 1, none⟩ = some (.int .i64 r.2.1) ∧ w.cell? ⟨g, i.toNat * 3 + 2, none⟩ = some r.2.2 := by
  have hi := (List.getElem?_eq_some_iff.1 hr).1
  obtain ⟨g, c, hv, _, _, hc⟩ := h.at h0 (by rw [rows3_length]; omega)
  rw [rows3_length] at hv
  have e1 : (rows3 rs).getD i.toNat [] = stepV r := by
    unfold rows3
    rw [List.getD_eq_getElem?_getD, List.getElem?_map, hr]
    rfl
  rw [e1] at hc
  exact ⟨g, c, hv, hi, hc 0 (by decide), hc 1 (by decide), hc 2 (by decide)⟩
end
def Link (ws : List (List Int)) (p l : Int) (v : List Int) : Prop := (v = [] ∧ p = -1) ∨ ∃ u, v = u ++ [l] ∧ 0 ≤ p ∧ ws[p.toNat]? = some u
theorem Link.more {ws : List (List Int)} {p l : Int} {v : List Int} (h : Link ws p l v) (us : List (List Int)) : Link (ws ++ us) p l v := by
  rcases h with h | ⟨u, h1, h2, h3⟩
  · exact .inl h
  · exact .inr ⟨u, h1, h2, by rw [List.getElem?_append_left (List.getElem?_eq_some_iff.1 h3).1]; exact h3⟩
structure Trail (w : World) (I : TypeId) (f : Int → Int → Int) (s : Int) (ws : List (List Int)) (rs : List (Int × Int × Value)) : Prop where
  len : rs.length = ws.length
  row : ∀ (j : Nat) (v : List Int), ws[j]? = some v → ∃ p l fv, rs[j]? = some (p, l, fv) ∧ Link ws p l v ∧ Ints w I fv [nodeOf f s v]
  lets : ∀ v ∈ ws, ∀ x ∈ v, 0 ≤ x ∧ x < 6
section
variable {w w' : World} {I : TypeId} {f : Int → Int → Int} {s : Int} {ws : List (List Int)} {rs : List (Int × Int × Value)}
theorem Trail.map (h : Trail w I f s ws rs) (k : ∀ v xs, Ints w I v xs → Ints w' I v xs) : Trail w' I f s ws rs :=
  ⟨h.len, fun j v hv => by
    obtain ⟨p, l, fv, h1, h2, h3⟩ := h.row j v hv
    exact ⟨p, l, fv, h1, h2, k _ _ h3⟩, h.lets⟩
theorem Trail.ext (h : Trail w I f s ws rs) (x : Ext w w') : Trail w' I f s ws rs := h.map fun _ _ h => h.ext x
theorem Trail.owned {B : Nat} {t : TypeId} {u : Value} {us : List Value} (h : Trail w I f s ws rs) (ho : Own w B t u us) (hg : w.grownBy w' u.ownBlock) (hne : t ≠ I) : Trail w' I f s ws rs := h.map fun _ _ h => Row.owned h ho hg hne
theorem Trail.stored {g : Nat} {t : TypeId} {cs : List Value} (h : Trail w I f s ws rs) (hg : w.grownBy w' (some g)) (hb : Blk w g t cs) (hne : t ≠ I) : Trail w' I f s ws rs := h.map fun _ _ h => Row.stored h hg hb hne
theorem Trail.wid {B n : Nat} {e : TypeId} {u : Value} {rows : List (List Value)} (h : Trail w I f s ws rs) (ho : Wid w B e n u rows) (hg : w.grownBy w' u.ownBlock) (hne : e ≠ I) : Trail w' I f s ws rs := h.map fun _ _ h => Row.wid h ho hg hne
theorem Trail.nil (w : World) (I : TypeId) (f : Int → Int → Int) (s : Int) : Trail w I f s [] [] := ⟨rfl, by simp, by simp⟩
theorem Trail.snoc (h : Trail w I f s ws rs) {p l : Int} {fv : Value} {v : List Int} (hl : Link ws p l v) (hf : Ints w I fv [nodeOf f s v]) (hv : ∀ x ∈ v, 0 ≤ x ∧ x < 6) : Trail w I f s (ws ++ [v]) (rs ++ [(p, l, fv)]) := by
  refine ⟨by simp [h.len], fun j u hu => ?_, fun u hu => ?_⟩
  · rcases Nat.lt_or_ge j ws.length with hj | hj
    · rw [List.getElem?_append_left hj] at hu
      obtain ⟨p', l', fv', h1, h2, h3⟩ := h.row j u hu
      exact ⟨p', l', fv', by rw [List.getElem?_append_left (by rw [h.len]; exact hj)]; exact h1, h2.more _, h3⟩
    · have hj2 := (List.getElem?_eq_some_iff.1 hu).1
      rw [List.length_append, List.length_singleton] at hj2
      obtain rfl : j = ws.length := by omega
      rw [List.getElem?_append_right (Nat.le_refl _), Nat.sub_self] at hu
      have hu' : v = u := by simpa using hu
      subst hu'
      exact ⟨p, l, fv, by rw [List.getElem?_append_right (by rw [h.len]; exact Nat.le_refl _), h.len, Nat.sub_self]; rfl, hl.more _, hf⟩
  · rcases List.mem_append.1 hu with h' | h'
    · exact h.lets u h'
    · rw [List.mem_singleton.1 h']; exact hv
end
def seenOf (n : Nat) (ns : List Int) : List Bool := (List.range n).map fun (i : Nat) => decide ((i : Int) ∈ ns)
theorem seenOf_length (n : Nat) (ns : List Int) : (seenOf n ns).length = n := by simp [seenOf]
theorem seenOf_nil (n : Nat) : seenOf n [] = List.replicate n false := by
  apply List.ext_getElem <;> simp [seenOf]
theorem seenOf_at {n : Nat} {ns : List Int} {q : Int} (hq : 0 ≤ q ∧ q < n) : (seenOf n ns).getD q.toNat false = decide (q ∈ ns) := by
  have h : q.toNat < n := by omega
  have e : ((q.toNat : Nat) : Int) = q := Int.toNat_of_nonneg hq.1
  simp [seenOf, List.getD_eq_getElem?_getD, h, e]
theorem seenOf_set {n : Nat} {ns : List Int} {q : Int} (hq : 0 ≤ q) : (seenOf n ns).set q.toNat true = seenOf n (ns ++ [q]) := by
  apply List.ext_getElem
  · simp [seenOf]
  · intro i h1 h2
    rw [List.getElem_set]
    by_cases h : q.toNat = i
    · have : ((i : Nat) : Int) = q := by omega
      simp [seenOf, h, this]
    · have : ((i : Nat) : Int) ≠ q := by omega
      simp [seenOf, h, this]
theorem Own.seen0 {w : World} {B n : Nat} {e : TypeId} {v : Value} (h : Own w B e v (List.replicate n (Value.bool false))) : Own w B e v ((seenOf n []).map Value.bool) := by rw [seenOf_nil, List.map_replicate]; exact h
theorem seen_n {w : World} {B n : Nat} {e : TypeId} {v : Value} {m : Int} (hm : m = n) (h : Own w B e v (List.replicate m.toNat (Value.bool false))) : Own w B e v (List.replicate n (Value.bool false)) := by
  subst hm; exact h
def NClo (P : Program) (w0 : World) (I : TypeId) (fv : Value) (D : Int → Prop) (f : Int → Int → Int) : Prop :=
  ∃ k fn, ∃ cs : List Value, fv = .func (.func k) #[] cs.toArray ∧ Fn P k fn ∧ ∀ w q x, Ext w0 w → D q → 0 ≤ x ∧ x < 6 → Ret P k ([Value.int .i64 q, Value.int .i64 x, Value.slice none 0 0] ++ cs).toArray w fun v w' => Own w' w.heap.size I v [Value.int .i64 (f q x)] ∧ Ext w w'
def GClo (P : Program) (w0 : World) (gv : Value) (D : Int → Prop) (G : Int → Bool) : Prop :=
  ∃ k fn, ∃ cs : List Value, gv = .func (.func k) #[] cs.toArray ∧ Fn P k fn ∧ ∀ w q, Ext w0 w → D q → Ret P k ([Value.int .i64 q] ++ cs).toArray w fun v w' => v = .bool (G q) ∧ Ext w w'
theorem NClo.up {P : Program} {w0 w1 : World} {I : TypeId} {fv : Value} {D : Int → Prop} {f : Int → Int → Int} (h : NClo P w0 I fv D f) (x : Ext w0 w1) : NClo P w1 I fv D f := by
  obtain ⟨k, fn, cs, h1, h2, h3⟩ := h
  exact ⟨k, fn, cs, h1, h2, fun w q y hw hq hy => h3 w q y (x.trans hw) hq hy⟩
theorem GClo.up {P : Program} {w0 w1 : World} {gv : Value} {D : Int → Prop} {G : Int → Bool} (h : GClo P w0 gv D G) (x : Ext w0 w1) : GClo P w1 gv D G := by
  obtain ⟨k, fn, cs, h1, h2, h3⟩ := h
  exact ⟨k, fn, cs, h1, h2, fun w q hw hq => h3 w q (x.trans hw) hq⟩
def BClo (P : Program) (w0 : World) (gv : Value) (g : Bool → Bool → Bool) : Prop :=
  ∃ k fn, ∃ cs : List Value, gv = .func (.func k) #[] cs.toArray ∧ Fn P k fn ∧ ∀ w x y, Ext w0 w → Ret P k ([Value.bool x, Value.bool y] ++ cs).toArray w fun v w' => v = .bool (g x y) ∧ Ext w w'
theorem BClo.up {P : Program} {w0 w1 : World} {gv : Value} {g : Bool → Bool → Bool} (h : BClo P w0 gv g) (x : Ext w0 w1) : BClo P w1 gv g := by
  obtain ⟨k, fn, cs, h1, h2, h3⟩ := h
  exact ⟨k, fn, cs, h1, h2, fun w a b hw => h3 w a b (x.trans hw)⟩
theorem BClo.one {P : Program} {w0 : World} {gv : Value} {g : Bool → Bool → Bool} (h : BClo P w0 gv g) : gv.oneCell' = true := by
  obtain ⟨k, fn, cs, h1, _⟩ := h
  rw [h1]; rfl
def SMem (wb w : World) (I Bo LB S LS GT : TypeId) (B bs bt bg : Nat) (gv : Value) (n : Nat) (f : Int → Int → Int) (s : Int) (ws : List (List Int)) : Prop :=
  ∃ sv tv rs, Blk w bs LB [sv] ∧ Own w B Bo sv ((seenOf n (ws.map (nodeOf f s))).map Value.bool) ∧ Blk w bt LS [tv] ∧ Wid w B S 3 tv (rows3 rs) ∧ Trail w I f s ws rs ∧ Blk w bg GT [gv] ∧ Ext wb w ∧ wb.heap.size ≤ B ∧ wb.heap.size ≤ bs ∧ wb.heap.size ≤ bt ∧ B ≤ w.heap.size
section
variable {wb w w' : World} {I Bo LB S LS GT : TypeId} {B bs bt bg n : Nat} {gv : Value} {f : Int → Int → Int} {s : Int} {ws : List (List Int)}
theorem SMem.ext (h : SMem wb w I Bo LB S LS GT B bs bt bg gv n f s ws) (x : Ext w w') : SMem wb w' I Bo LB S LS GT B bs bt bg gv n f s ws := by
  obtain ⟨sv, tv, rs, h1, h2, h3, h4, h5, h6, h7, h8, h9, h10, h11⟩ := h
  exact ⟨sv, tv, rs, h1.ext x, h2.ext x, h3.ext x, h4.ext x, h5.ext x, h6.ext x, h7.trans x, h8, h9, h10, Nat.le_trans h11 (Below.size x)⟩
theorem SMem.base (h : SMem wb w I Bo LB S LS GT B bs bt bg gv n f s ws) : Ext wb w := by
  obtain ⟨sv, tv, rs, h1, h2, h3, h4, h5, h6, h7, h8⟩ := h
  exact h7
end
theorem Wid.one {w : World} {B n : Nat} {e : TypeId} {v : Value} {rows : List (List Value)} (h : Wid w B e n v rows) : v.oneCell' = true := by
  rcases h.cases with ⟨rfl, _⟩ | ⟨g, cap, cs, rfl, _⟩ <;> rfl
theorem Own.snocT {w : World} {B : Nat} {e : TypeId} {v : Value} {t : List Int} {l : Int} (h : Own w B e v ((txb t.reverse).map (fun b => Value.int .u8 (b.toNat : Int)) ++ [Value.int .u8 (97 + l)])) (hl : 0 ≤ l ∧ l < 6) : Own w B e v ((txb (l :: t).reverse).map fun b => Value.int .u8 (b.toNat : Int)) := by
  have e1 : (txb (l :: t).reverse).map (fun b => Value.int .u8 (b.toNat : Int)) = (txb t.reverse).map (fun b => Value.int .u8 (b.toNat : Int)) ++ [Value.int .u8 (97 + l)] := by
    have := u8_of (n := 97 + l) (by omega)
    simp only [txb, List.reverse_cons, List.map_append, List.map_cons, List.map_nil, this]
  rw [e1]; exact h
section
variable {f : Int → Int → Int} {s : Int} {L : List Int} {G : Int → Bool}
def wmid (f : Int → Int → Int) (s : Int) (L : List Int) (i : Nat) (u : List Int) (k : Nat) : List (List Int) := wround f s u (bfsw f s L i) (L.take k)
theorem wmid_succ {i : Nat} {u : List Int} {k : Nat} (hk : k < L.length) : wmid f s L i u (k + 1) = wadd f s (wmid f s L i u k) (u ++ [L.getD k 0]) := by
  unfold wmid wround
  rw [take_snoc 0 hk, List.foldl_append]
  rfl
theorem wmid_done {i : Nat} {u : List Int} {k : Nat} (h : L.length ≤ k) (hu : (bfsw f s L i)[i]? = some u) : wmid f s L i u k = bfsw f s L (i + 1) := by
  rw [bfsw, hu]
  unfold wmid
  rw [List.take_of_length_le h]
theorem wmid_more (i : Nat) (u : List Int) (k : Nat) : bfsw f s L i <+: wmid f s L i u k := wround_prefix _ _ _
theorem wmid_last {i : Nat} {u : List Int} {k : Nat} (hu : (bfsw f s L i)[i]? = some u) : wmid f s L i u k <+: bfsw f s L (i + 1) := by
  rcases Nat.lt_or_ge k L.length with h | h
  · rw [← wmid_done (k := L.length) (Nat.le_refl _) hu]
    unfold wmid wround
    have e : L.take L.length = L.take k ++ L.drop k := by rw [List.take_length, List.take_append_drop]
    rw [e, List.foldl_append]
    exact wround_prefix (f := f) (s := s) u (L.drop k) _
  · rw [wmid_done h hu]; exact List.prefix_refl _
theorem bfsw_more {i j : Nat} (h : i ≤ j) : bfsw f s L i <+: bfsw f s L j := by
  induction j with
  | zero => obtain rfl : i = 0 := by omega
            exact List.prefix_refl _
  | succ j ih =>
    rcases Nat.lt_or_ge i (j + 1) with h1 | h1
    · exact (ih (by omega)).trans (bfsw_prefix1 j)
    · obtain rfl : i = j + 1 := by omega
      exact List.prefix_refl _
theorem wadd_T {ws : List (List Int)} {v : List Int} (h : nodeOf f s v ∈ ws.map (nodeOf f s)) : wadd f s ws v = ws := if_pos h
theorem wadd_F {ws : List (List Int)} {v : List Int} (h : nodeOf f s v ∉ ws.map (nodeOf f s)) : wadd f s ws v = ws ++ [v] := if_neg h
theorem first_found {i : Nat} {u : List Int} {k : Nat} (hu : (bfsw f s L i)[i]? = some u) (hi : i + 1 ≤ 200) (hk : k < L.length) (hG : ∀ v ∈ wmid f s L i u k, G (nodeOf f s v) = false) (hn : nodeOf f s (u ++ [L.getD k 0]) ∉ (wmid f s L i u k).map (nodeOf f s)) (hg : G (nodeOf f s (u ++ [L.getD k 0])) = true) :
    firstOf f s L G = some (u ++ [L.getD k 0]) := by
  have h1 := wmid_last (k := k + 1) hu
  rw [wmid_succ hk, wadd_F hn] at h1
  obtain ⟨t, ht⟩ := h1.trans (bfsw_more (f := f) (s := s) (L := L) (i := i + 1) (j := many 0) (by rw [many_eq]; exact hi))
  unfold firstOf ordw
  rw [← ht, List.append_assoc, List.find?_append, List.find?_eq_none.2 (fun v hv => by rw [hG v hv]; decide), Option.none_or, List.singleton_append]
  exact List.find?_cons_of_pos (p := fun w => G (nodeOf f s w)) hg
theorem first_missed {i : Nat} (hl : (bfsw f s L i).length ≤ i) (hi : i ≤ 200) (hG : ∀ v ∈ bfsw f s L i, G (nodeOf f s v) = false) : firstOf f s L G = none := by
  have e : bfsw f s L (many 0) = bfsw f s L i := by
    have h1 := bfsw_more (f := f) (s := s) (L := L) (i := i) (j := many 0) (by rw [many_eq]; exact hi)
    refine (h1.eq_of_length ?_).symm
    rw [bfsw_length, bfsw_length]
    rw [bfsw_length] at hl
    rw [bfs_stop (j := many 0) hl (by rw [many_eq]; exact hi)]
  unfold firstOf ordw
  rw [e, List.find?_eq_none.2 (fun v hv => by rw [hG v hv]; decide)]
theorem first_here (hg : G s = true) : firstOf f s L G = some [] := by
  obtain ⟨t, ht⟩ := bfsw_more (f := f) (s := s) (L := L) (i := 0) (j := many 0) (Nat.zero_le _)
  unfold firstOf ordw
  rw [← ht]
  have : bfsw f s L 0 = [[]] := rfl
  rw [this]
  simp [nodeOf, hg]
theorem bfsw_lets {i : Nat} (hL : ∀ x ∈ L, 0 ≤ x ∧ x < 6) : ∀ v ∈ bfsw f s L i, ∀ x ∈ v, 0 ≤ x ∧ x < 6 := by
  induction i with
  | zero =>
    intro v hv
    have : v = [] := by simpa [bfsw] using hv
    subst this
    intro x hx; cases hx
  | succ i ih =>
    intro v hv
    rw [bfsw] at hv
    cases h : (bfsw f s L i)[i]? with
    | none => rw [h] at hv; exact ih v hv
    | some u =>
      rw [h] at hv
      rcases wround_mem u L _ hv with h' | ⟨l, hl, rfl⟩
      · exact ih v h'
      · intro x hx
        rcases List.mem_append.1 hx with h1 | h1
        · exact ih u (List.mem_of_getElem? h) x h1
        · rw [List.mem_singleton.1 h1]; exact hL l hl
theorem wadd_miss {ws : List (List Int)} {v : List Int} (h : ∀ u ∈ ws, G (nodeOf f s u) = false) (hf : (!decide (nodeOf f s v ∈ ws.map (nodeOf f s)) && G (nodeOf f s v)) = false) : ∀ u ∈ wadd f s ws v, G (nodeOf f s u) = false := by
  intro u hu
  by_cases hm : nodeOf f s v ∈ ws.map (nodeOf f s)
  · rw [wadd_T hm] at hu; exact h u hu
  · rw [wadd_F hm] at hu
    rcases List.mem_append.1 hu with h1 | h1
    · exact h u h1
    · rw [List.mem_singleton.1 h1]
      simpa [hm] using hf
theorem bfsw_range {n : Nat} {D : Int → Prop} (h0 : D s) (hD : ∀ q, D q → ∀ x ∈ L, D (f q x)) (hn : ∀ q, D q → 0 ≤ q ∧ q < n) (i : Nat) : (bfsw f s L i).length ≤ n := by
  rw [bfsw_length]
  have h1 := nodup_len (U := (List.range n).map fun (i : Nat) => (i : Int)) (bfs_nodup (f := f) (s := s) (L := L) i) (fun q hq => inU.2 (hn q (bfs_all h0 hD i q hq)))
  simpa using h1
theorem bfsw_lenw {i j : Nat} {u : List Int} (h : (bfsw f s L i)[j]? = some u) : u.length ≤ i := by
  have hall : ∀ v ∈ bfsw f s L i, v.length ≤ i := by
    clear h
    induction i with
    | zero =>
      intro v hv
      have : v = [] := by simpa [bfsw] using hv
      subst this
      exact Nat.le_refl _
    | succ i ih =>
      intro v hv
      rw [bfsw] at hv
      cases h : (bfsw f s L i)[i]? with
      | none => rw [h] at hv; exact Nat.le_succ_of_le (ih v hv)
      | some u =>
        rw [h] at hv
        rcases wround_mem u L _ hv with h' | ⟨l, hl, rfl⟩
        · exact Nat.le_succ_of_le (ih v h')
        · have := ih u (List.mem_of_getElem? h)
          simp only [List.length_append, List.length_singleton]
          omega
  exact hall u (List.mem_of_getElem? h)
theorem nodeOf_in {D : Int → Prop} (h0 : D s) (hD : ∀ q, D q → ∀ x ∈ L, D (f q x)) : ∀ (i : Nat), ∀ v ∈ bfsw f s L i, D (nodeOf f s v) := by
  intro i v hv
  have : nodeOf f s v ∈ bfs f s L i := by rw [← bfsw_map]; exact List.mem_map.2 ⟨v, hv, rfl⟩
  exact bfs_all h0 hD i _ this
end
section maps
variable {α β : Type} [DecidableEq α] [DecidableEq β] {f : α → Int → α} {s : α} {L : List Int} {f' : β → Int → β} {g : α → β} {P : α → Prop}
omit [DecidableEq α] [DecidableEq β] in
theorem nodeOf_map (h0 : P s) (hs : ∀ q, P q → ∀ l ∈ L, P (f q l)) (hf : ∀ q, P q → ∀ l ∈ L, f' (g q) l = g (f q l)) : ∀ (v : List Int), (∀ x ∈ v, x ∈ L) → nodeOf f' (g s) v = g (nodeOf f s v) ∧ P (nodeOf f s v) := by
  intro v
  induction v generalizing s with
  | nil => intro _; exact ⟨rfl, h0⟩
  | cons x v ih =>
    intro hv
    have hx := hv x (by simp)
    have := ih (s := f s x) (hs s h0 x hx) (fun y hy => hv y (by simp [hy]))
    show nodeOf f' (f' (g s) x) v = g (nodeOf f (f s x) v) ∧ P (nodeOf f (f s x) v)
    rw [hf s h0 x hx]
    exact this
theorem wround_over (u : List Int) (hu : ∀ x ∈ u, x ∈ L) : ∀ (Ls : List Int) (ws : List (List Int)), (∀ l ∈ Ls, l ∈ L) → (∀ v ∈ ws, ∀ x ∈ v, x ∈ L) → ∀ v ∈ wround f s u ws Ls, ∀ x ∈ v, x ∈ L := by
  intro Ls ws hLs hws v hv
  rcases wround_mem u Ls ws hv with h | ⟨l, hl, rfl⟩
  · exact hws v h
  · intro x hx
    rcases List.mem_append.1 hx with h1 | h1
    · exact hu x h1
    · rw [List.mem_singleton.1 h1]; exact hLs l hl
theorem bfsw_over (i : Nat) : ∀ v ∈ bfsw f s L i, ∀ x ∈ v, x ∈ L := by
  induction i with
  | zero =>
    intro v hv
    have : v = [] := by simpa [bfsw] using hv
    subst this
    intro x hx; cases hx
  | succ i ih =>
    intro v hv
    rw [bfsw] at hv
    cases h : (bfsw f s L i)[i]? with
    | none => rw [h] at hv; exact ih v hv
    | some u => rw [h] at hv; exact wround_over u (ih u (List.mem_of_getElem? h)) L _ (fun _ h => h) ih v hv
theorem wadd_map' (hg : ∀ a b, P a → P b → g a = g b → a = b) (h0 : P s) (hs : ∀ q, P q → ∀ l ∈ L, P (f q l)) (hf : ∀ q, P q → ∀ l ∈ L, f' (g q) l = g (f q l)) {ws : List (List Int)} {v : List Int} (hws : ∀ u ∈ ws, ∀ x ∈ u, x ∈ L) (hv : ∀ x ∈ v, x ∈ L) : wadd f' (g s) ws v = wadd f s ws v := by
  have h1 := nodeOf_map h0 hs hf v hv
  have e : nodeOf f' (g s) v ∈ ws.map (nodeOf f' (g s)) ↔ nodeOf f s v ∈ ws.map (nodeOf f s) := by
    constructor
    · intro h
      obtain ⟨u, hu, he⟩ := List.mem_map.1 h
      have h2 := nodeOf_map h0 hs hf u (hws u hu)
      rw [h1.1, h2.1] at he
      exact List.mem_map.2 ⟨u, hu, hg _ _ h2.2 h1.2 he⟩
    · intro h
      obtain ⟨u, hu, he⟩ := List.mem_map.1 h
      have h2 := nodeOf_map h0 hs hf u (hws u hu)
      exact List.mem_map.2 ⟨u, hu, by rw [h1.1, h2.1, he]⟩
  unfold wadd
  by_cases h : nodeOf f s v ∈ ws.map (nodeOf f s)
  · rw [if_pos h, if_pos (e.2 h)]
  · rw [if_neg h, if_neg (fun hc => h (e.1 hc))]
theorem wround_map' (hg : ∀ a b, P a → P b → g a = g b → a = b) (h0 : P s) (hs : ∀ q, P q → ∀ l ∈ L, P (f q l)) (hf : ∀ q, P q → ∀ l ∈ L, f' (g q) l = g (f q l)) {u : List Int} (hu : ∀ x ∈ u, x ∈ L) : ∀ (Ls : List Int) (ws : List (List Int)), (∀ l ∈ Ls, l ∈ L) → (∀ v ∈ ws, ∀ x ∈ v, x ∈ L) → wround f' (g s) u ws Ls = wround f s u ws Ls
  | [], ws, _, _ => rfl
  | l :: Ls, ws, hLs, hws => by
    have hul : ∀ x ∈ u ++ [l], x ∈ L := fun x hx => by
      rcases List.mem_append.1 hx with h1 | h1
      · exact hu x h1
      · rw [List.mem_singleton.1 h1]; exact hLs l (by simp)
    have e := wadd_map' hg h0 hs hf hws hul
    show wround f' (g s) u (wadd f' (g s) ws (u ++ [l])) Ls = wround f s u (wadd f s ws (u ++ [l])) Ls
    rw [e]
    refine wround_map' hg h0 hs hf hu Ls _ (fun x hx => hLs x (by simp [hx])) (fun v hv => ?_)
    rcases wadd_mem hv with h | rfl
    · exact hws v h
    · exact hul
theorem bfsw_map' (hg : ∀ a b, P a → P b → g a = g b → a = b) (h0 : P s) (hs : ∀ q, P q → ∀ l ∈ L, P (f q l)) (hf : ∀ q, P q → ∀ l ∈ L, f' (g q) l = g (f q l)) (i : Nat) : bfsw f' (g s) L i = bfsw f s L i := by
  induction i with
  | zero => rfl
  | succ i ih =>
    rw [bfsw, bfsw, ih]
    cases h : (bfsw f s L i)[i]? with
    | none => rfl
    | some u => exact wround_map' hg h0 hs hf (bfsw_over i u (List.mem_of_getElem? h)) L _ (fun _ h => h) (bfsw_over i)
theorem firstOf_map {G : α → Bool} {G' : β → Bool} (hg : ∀ a b, P a → P b → g a = g b → a = b) (h0 : P s) (hs : ∀ q, P q → ∀ l ∈ L, P (f q l)) (hf : ∀ q, P q → ∀ l ∈ L, f' (g q) l = g (f q l)) (hG : ∀ q, P q → G' (g q) = G q) : firstOf f' (g s) L G' = firstOf f s L G := by
  unfold firstOf ordw
  rw [bfsw_map' hg h0 hs hf]
  have : ∀ (ws : List (List Int)), (∀ v ∈ ws, ∀ x ∈ v, x ∈ L) → ws.find? (fun w => G' (nodeOf f' (g s) w)) = ws.find? (fun w => G (nodeOf f s w)) := by
    intro ws
    induction ws with
    | nil => intro _; rfl
    | cons v ws ih =>
      intro h
      have h1 := nodeOf_map h0 hs hf v (h v (by simp))
      rw [List.find?_cons, List.find?_cons, h1.1, hG _ h1.2, ih (fun u hu => h u (by simp [hu]))]
  exact this _ (bfsw_over _)
end maps
def firstAB (a b : A) (p : Int × Int) (g : Bool → Bool → Bool) : Option (List Int) := firstOf (step2 a b) p (letters a.al) fun p => g (accA a p.1) (accA b p.2)
def resW (o : Option (List Int)) : Value := .tuple #[.string (txt (o.getD [])), .bool o.isSome]
def cmp2 (a b : A) : Bool := validA a && (validA b && decide (a.al = b.al))
theorem cmp2_spec {a b : A} : cmp2 a b = true ↔ validA a = true ∧ validA b = true ∧ a.al = b.al := by simp [cmp2]
def fTwo (a b : A) (g : Bool → Bool → Bool) : Option (List Int) := if cmp2 a b = true then firstAB a b (0, 0) g else none
def fDif (a b : A) : Option (List Int) := fTwo a b fun x y => x != y
def fOut (a b : A) : Option (List Int) := fTwo a b fun x y => x && !y
def withinL (a b : A) : Bool := cmp2 a b && !(fOut a b).isSome
theorem firstAB_enc {a b : A} {p : Int × Int} {g : Bool → Bool → Bool} (hv : validA a = true) (hv' : validA b = true) (hp : In2 a b p) : firstOf (fP a b) (enc2 b p) (letters a.al) (fun q => g (accA a (q / (b.next.length : Int))) (accA b (q % (b.next.length : Int)))) = firstAB a b p g :=
  firstOf_map (P := In2 a b) (g := enc2 b) (enc_inj) hp (fun q hq l hl => in2 hv hv' hq ⟨(mem_letters hl).1, (mem_letters hl).2.1⟩) (fun q hq l _ => fP_enc hq l) (fun q hq => by rw [(enc_div hq).1, (enc_div hq).2])
end Go.Proofs.Ytoboklelbbgcnaa
set_option linter.unusedSimpArgs false
set_option linter.unusedVariables false
namespace Go.Proofs.Ytoboklelbbgcnaa
open Go.RowKit
section
variable {w w' : World} {B n : Nat} {e : TypeId} {v : Value} {rows : List (List Value)}
theorem Wid.rowAt (h : Wid w B e n v rows) {i : Int} (h0 : 0 ≤ i) {r : List Value} (hr : rows[i.toNat]? = some r) : ∃ g c, v = .slice (some ⟨g, 0, none⟩) rows.length c ∧ i.toNat < rows.length := by
  have hi := (List.getElem?_eq_some_iff.1 hr).1
  obtain ⟨g, c, hv, _⟩ := h.at h0 (by omega)
  exact ⟨g, c, hv, hi⟩
theorem Wid.cellR {g c : Nat} (hv : v = .slice (some ⟨g, 0, none⟩) rows.length c) (h : Wid w B e n v rows) {i : Int} (h0 : 0 ≤ i) {r : List Value} (hr : rows[i.toNat]? = some r) {j : Nat} (hj : j < n) : w.cell? ⟨g, i.toNat * n + j, none⟩ = r[j]? := by
  have hi := (List.getElem?_eq_some_iff.1 hr).1
  obtain ⟨g', c', hv', _, _, hc⟩ := h.at h0 (by omega)
  rw [hv] at hv'
  injection hv' with hv' _ _
  injection hv' with hv'
  injection hv' with hv' _ _
  subst hv'
  rw [hc j hj, List.getD_eq_getElem?_getD, hr]
  rfl
end
theorem Still.loadAggW {P : Program} {N : Nat} {l : Slots} {w : World} {d : Nat} {ty : TypeId} {pos : String} {after : Array Edge} {g : Option (Nat × Bool)} {t : TypeId} {b o n : Nat} {x : Operand} {cs : List Value} (h1 : Agg P t n) (hx : ev l x = some (.pointer (some ⟨b, o, none⟩))) (hn : cs.length = n) (hc : ∀ j, j < n → w.cell? ⟨b, o + j, none⟩ = cs[j]?) : Still P N l ⟨some d, .load t x, ty, pos, after, g⟩ (.agg cs.toArray) w := fun a ha => by
  have hl : (loadCells ⟨b, o, none⟩ n).run P w = .ok cs.toArray w := by
    rw [← hn]
    refine run_loadCells_list _ _ _ fun j v hv => ?_
    rw [addr_add]
    have hj := (List.getElem?_eq_some_iff.1 hv).1
    rw [hc j (by omega)]
    simpa using hv
  simp [execOp, ha.ev hx, Instr.loadAt, Instr.sureAddr, loadVar, h1.agg, h1.size, hl]
def NetA (w : World) (AU SI I Bo : TypeId) (av : Value) (aas : List A) : Prop :=
  ∃ B rows, Wid w B AU 3 av rows ∧ rows.length = aas.length ∧ ∀ (j : Nat) (a : A), aas[j]? = some a → ∃ nx ac, rows[j]? = some [.int .i64 a.al, nx, ac] ∧ Rows w SI I nx a.next ∧ Bools w Bo ac a.acc
theorem NetA.ext {w w' : World} {AU SI I Bo : TypeId} {av : Value} {aas : List A} (h : NetA w AU SI I Bo av aas) (x : Ext w w') : NetA w' AU SI I Bo av aas := by
  obtain ⟨B, rows, h1, h2, h3⟩ := h
  refine ⟨B, rows, h1.ext x, h2, fun j a ha => ?_⟩
  obtain ⟨nx, ac, g1, g2, g3⟩ := h3 j a ha
  exact ⟨nx, ac, g1, g2.ext x, g3.ext x⟩
theorem NetA.one {w : World} {AU SI I Bo : TypeId} {av : Value} {aas : List A} (h : NetA w AU SI I Bo av aas) : av.oneCell' = true := by
  obtain ⟨B, rows, h1, _⟩ := h
  exact h1.one
def Cell1 (w : World) (p : Addr) (u : Value) : Prop := w.cell? p = some u
theorem Cell1.ext {w w' : World} {p : Addr} {u : Value} (h : Cell1 w p u) (x : Ext w w') : Cell1 w' p u := by
  have hb := World.block_lt_of_cell? w p h
  unfold Cell1 at *
  rw [← h]
  unfold World.cell?
  rw [x.block p.block hb]
theorem at_getD {α : Type} {l : List α} {k : Nat} {d : α} (h : k < l.length) : l[k]? = some (l.getD k d) := by
  rw [List.getD_eq_getElem?_getD, List.getElem?_eq_getElem h]; rfl
def Read3 (w : World) (e3 e2 e1 : TypeId) (v : Value) (xsss : List (List (List Int))) : Prop := ∃ rs, Row w e3 v rs ∧ rs.length = xsss.length ∧ ∀ (i : Nat) (r : Value), rs[i]? = some r → Rows w e2 e1 r (xsss.getD i [])
def RowU (w : World) (U : Nat) (e : TypeId) (v : Value) (vs : List Value) : Prop := Row w e v vs ∧ ∀ k, v.ownBlock = some k → k < U
def RowsU (w : World) (U : Nat) (e e' : TypeId) (v : Value) (xss : List (List Int)) : Prop := ∃ rs, RowU w U e v rs ∧ rs.length = xss.length ∧ ∀ (i : Nat) (r : Value), rs[i]? = some r → RowU w U e' r ((xss.getD i []).map (Value.int .i64))
def Own3 (w : World) (B U : Nat) (e3 e2 e1 : TypeId) (v : Value) (xsss : List (List (List Int))) : Prop := ∃ rs, Own w B e3 v rs ∧ rs.length = xsss.length ∧ ∀ (i : Nat) (r : Value), rs[i]? = some r → RowsU w U e2 e1 r (xsss.getD i [])
section
variable {w w' : World} {B U : Nat} {e e' e1 e2 e3 : TypeId} {v : Value} {vs : List Value} {xss : List (List Int)} {xsss : List (List (List Int))}
theorem RowU.ext (h : RowU w U e v vs) (x : Ext w w') : RowU w' U e v vs := ⟨h.1.ext x, h.2⟩
theorem RowU.apart {g : Nat} (h : RowU w U e v vs) (hg : w.grownBy w' (some g)) (hU : U ≤ g) : RowU w' U e v vs := by
  refine ⟨?_, h.2⟩
  rcases h.1 with h1 | ⟨b, o, c, cur, fr, hv, hb, hx⟩
  · exact .inl h1
  · refine .inr ⟨b, o, c, cur, fr, hv, ?_, hx⟩
    have hlt := h.2 b (by rw [hv]; rfl)
    rw [hg.block b (lt_of_block hb) (fun h => by injection h with h; omega)]
    exact hb
theorem RowU.other {B' : Nat} {t : TypeId} {u : Value} {us : List Value} (h : RowU w U e v vs) (ho : Own w B' t u us) (hg : w.grownBy w' u.ownBlock) (hne : t ≠ e) : RowU w' U e v vs := ⟨h.1.owned ho hg hne, h.2⟩
theorem RowsU.ext (h : RowsU w U e e' v xss) (x : Ext w w') : RowsU w' U e e' v xss := by
  obtain ⟨rs, h1, h2, h3⟩ := h
  exact ⟨rs, h1.ext x, h2, fun i r hr => (h3 i r hr).ext x⟩
theorem RowsU.apart {g : Nat} (h : RowsU w U e e' v xss) (hg : w.grownBy w' (some g)) (hU : U ≤ g) : RowsU w' U e e' v xss := by
  obtain ⟨rs, h1, h2, h3⟩ := h
  exact ⟨rs, h1.apart hg hU, h2, fun i r hr => (h3 i r hr).apart hg hU⟩
theorem RowsU.other {B' : Nat} {t : TypeId} {u : Value} {us : List Value} (h : RowsU w U e e' v xss) (ho : Own w B' t u us) (hg : w.grownBy w' u.ownBlock) (hne : t ≠ e) (hne' : t ≠ e') : RowsU w' U e e' v xss := by
  obtain ⟨rs, h1, h2, h3⟩ := h
  exact ⟨rs, h1.other ho hg hne, h2, fun i r hr => (h3 i r hr).other ho hg hne'⟩
theorem RowsU.up {U' : Nat} (h : RowsU w U e e' v xss) (hU : U ≤ U') : RowsU w U' e e' v xss := by
  obtain ⟨rs, h1, h2, h3⟩ := h
  exact ⟨rs, ⟨h1.1, fun k hk => Nat.lt_of_lt_of_le (h1.2 k hk) hU⟩, h2, fun i r hr => ⟨(h3 i r hr).1, fun k hk => Nat.lt_of_lt_of_le ((h3 i r hr).2 k hk) hU⟩⟩
theorem RowsU.rows (h : RowsU w U e e' v xss) : Rows w e e' v xss := by
  obtain ⟨rs, h1, h2, h3⟩ := h
  exact ⟨rs, h1.1, h2, fun i r hr => (h3 i r hr).1⟩
theorem RowsU.of (h : OwnRows w B w.heap.size e e' v xss) : RowsU w w.heap.size e e' v xss := by
  obtain ⟨rs, h1, h2, h3, h4⟩ := h
  exact ⟨rs, ⟨h1.row, fun k hk => (h1.lt k hk).2⟩, h2, fun i r hr => ⟨(h3 i r hr).1.row, (h3 i r hr).2⟩⟩
theorem Own3.nil (w : World) (B U : Nat) (e3 e2 e1 : TypeId) {v : Value} (h : Own w B e3 v []) : Own3 w B U e3 e2 e1 v [] := ⟨[], h, rfl, by simp⟩
theorem Own3.now (h : Own3 w B U e3 e2 e1 v xsss) (hU : U ≤ w.heap.size := by omega) : Own3 w B w.heap.size e3 e2 e1 v xsss := by
  obtain ⟨rs, h1, h2, h3⟩ := h
  exact ⟨rs, h1, h2, fun i r hr => (h3 i r hr).up hU⟩
theorem OwnRows.nil' (w : World) (B U : Nat) (e e' : TypeId) {v : Value} (h : Own w B e v []) : OwnRows w B U e e' v [] := ⟨[], h, rfl, by simp, by simp⟩
theorem Own3.ext (h : Own3 w B U e3 e2 e1 v xsss) (x : Ext w w') : Own3 w' B U e3 e2 e1 v xsss := by
  obtain ⟨rs, h1, h2, h3⟩ := h
  exact ⟨rs, h1.ext x, h2, fun i r hr => (h3 i r hr).ext x⟩
theorem Own3.apart {B' : Nat} {t : TypeId} {u : Value} {us : List Value} (h : Own3 w B U e3 e2 e1 v xsss) (ho : Own w B' t u us) (hg : w.grownBy w' u.ownBlock) (hB : U ≤ B') (hne : t ≠ e3) : Own3 w' B U e3 e2 e1 v xsss := by
  obtain ⟨rs, h1, h2, h3⟩ := h
  refine ⟨rs, h1.owned ho hg hne, h2, fun i r hr => ?_⟩
  rcases ho.cases with ⟨rfl, rfl⟩ | ⟨g, cap, cs, rfl, hg', hb, _⟩
  · exact (h3 i r hr).ext (Ext.of_grown hg)
  · exact (h3 i r hr).apart (g := g) hg (Nat.le_trans hB hg')
theorem Own3.read (h : Own3 w B U e3 e2 e1 v xsss) : Read3 w e3 e2 e1 v xsss := by
  obtain ⟨rs, h1, h2, h3⟩ := h
  exact ⟨rs, h1.row, h2, fun i r hr => (h3 i r hr).rows⟩
theorem Own3.open (h : Own3 w B U e3 e2 e1 v xsss) (hne : e3 ≠ e2) (hne' : e3 ≠ e1) : ∃ rs, Own w B e3 v rs ∧ rs.length = xsss.length ∧
    ∀ r xss w1 v' w', Ext w w1 → RowsU w1 w1.heap.size e2 e1 r xss → U ≤ w1.heap.size → Own w' B e3 v' (rs ++ [r]) → w1.grownBy w' v.ownBlock → Own3 w' B w'.heap.size e3 e2 e1 v' (xsss ++ [xss]) := by
  obtain ⟨rs, h1, h2, h3⟩ := h
  refine ⟨rs, h1, h2, fun r xss w1 v' w' x hr hU hv hg => ?_⟩
  have hv1 := h1.ext x
  have hsz := World.grownBy.size hg
  refine ⟨rs ++ [r], hv, by simp [h2], fun i q hq => ?_⟩
  rcases Nat.lt_or_ge i rs.length with hi | hi
  · rw [List.getElem?_append_left hi] at hq
    have e4 : (xsss ++ [xss]).getD i [] = xsss.getD i [] := by
      rw [List.getD_eq_getElem?_getD, List.getElem?_append_left (by omega), ← List.getD_eq_getElem?_getD]
    rw [e4]
    exact (((h3 i q hq).ext x).other hv1 hg hne hne').up (by omega)
  · have hi2 := (List.getElem?_eq_some_iff.1 hq).1
    rw [List.length_append, List.length_singleton] at hi2
    obtain rfl : i = rs.length := by omega
    rw [List.getElem?_append_right (Nat.le_refl _), Nat.sub_self] at hq
    have hq' : r = q := by simpa using hq
    subst hq'
    have e4 : (xsss ++ [xss]).getD rs.length [] = xss := by
      rw [h2, List.getD_eq_getElem?_getD, List.getElem?_append_right (Nat.le_refl _), Nat.sub_self]; rfl
    rw [e4]
    exact (hr.other hv1 hg hne hne').up hsz
theorem Read3.ext (h : Read3 w e3 e2 e1 v xsss) (x : Ext w w') : Read3 w' e3 e2 e1 v xsss := by
  obtain ⟨rs, h1, h2, h3⟩ := h
  exact ⟨rs, h1.ext x, h2, fun i r hr => (h3 i r hr).ext x⟩
theorem Read3.at (h : Read3 w e3 e2 e1 v xsss) {i : Int} (hi : 0 ≤ i) (hlt : i.toNat < xsss.length) : ∃ p r, At w e3 v i p r ∧ Rows w e2 e1 r (xsss.getD i.toNat []) := by
  obtain ⟨rs, h1, h2, h3⟩ := h
  have hl : i.toNat < rs.length := by omega
  obtain ⟨p, hp⟩ := h1.at hi hl
  exact ⟨p, rs[i.toNat], hp, h3 _ _ (List.getElem?_eq_getElem hl)⟩
end
def szs (aas : List A) : List Int := aas.map fun a => (a.next.length : Int)
def prodFrom (ss : List Int) (i : Nat) : Int := (ss.drop i).foldr (· * ·) 1
def decL (ss : List Int) (q : Int) : List Int := (List.range ss.length).map fun i => q / prodFrom ss (i + 1) % ss.getD i 0
def decTo (ss : List Int) (q : Int) (m : Nat) : List Int := (List.range ss.length).map fun i => if i < m then 0 else q / prodFrom ss (i + 1) % ss.getD i 0
def encTo (ss st : List Int) : Nat → Int
  | 0 => 0
  | k + 1 => encTo ss st k * ss.getD k 0 + st.getD k 0
def goL (aas : List A) (st : List Int) (x : Int) : List Int := (List.range aas.length).map fun i => goA (aas.getD i zeroA) (st.getD i 0) x
def fN (aas : List A) (q x : Int) : Int := encTo (szs aas) (goL aas (decL (szs aas) q) x) aas.length
def foundN (kd gl : Int) (aas : List A) (st : List Int) : Bool :=
  if kd = 0 then accA (aas.getD 0 zeroA) (st.getD 0 0) else if kd = 1 then accA (aas.getD 0 zeroA) (st.getD 0 0) != accA (aas.getD 1 zeroA) (st.getD 1 0)
  else if kd = 2 then accA (aas.getD 0 zeroA) (st.getD 0 0) && !accA (aas.getD 1 zeroA) (st.getD 1 0) else decide (st.getD 0 0 = gl)
def NetOk (aas : List A) : Prop := (1 ≤ aas.length ∧ aas.length ≤ 2) ∧ ∀ a ∈ aas, validA a = true
def KindOk (kd : Int) (aas : List A) : Prop := kd = 0 ∨ kd = 5 ∨ ((kd = 1 ∨ kd = 2) ∧ aas.length = 2)
theorem szs_length (aas : List A) : (szs aas).length = aas.length := by simp [szs]
theorem szs_at {aas : List A} {k : Nat} (h : k < aas.length) : (szs aas).getD k 0 = ((aas.getD k zeroA).next.length : Int) := by
  simp [szs, List.getD_eq_getElem?_getD, h]
theorem net_at {aas : List A} (h : NetOk aas) {k : Nat} (hk : k < aas.length) : aas[k]? = some (aas.getD k zeroA) ∧ validA (aas.getD k zeroA) = true ∧ 1 ≤ (aas.getD k zeroA).next.length ∧ (aas.getD k zeroA).next.length ≤ 12 ∧ (aas.getD k zeroA).acc.length = (aas.getD k zeroA).next.length := by
  have e : aas[k]? = some (aas.getD k zeroA) := by rw [List.getD_eq_getElem?_getD, List.getElem?_eq_getElem hk]; rfl
  have hv := h.2 _ (List.mem_of_getElem? e)
  have := (validA_spec.1 hv).2
  exact ⟨e, hv, by omega, by omega, by omega⟩
def SzOk (ss : List Int) : Prop := ss.length ≤ 2 ∧ ∀ k, k < ss.length → 1 ≤ ss.getD k 0 ∧ ss.getD k 0 ≤ 12
theorem szs_ok {aas : List A} (h : NetOk aas) : SzOk (szs aas) := ⟨by rw [szs_length]; exact h.1.2, fun k hk => by
  rw [szs_length] at hk
  have := net_at h hk
  rw [szs_at hk]
  omega⟩
theorem prodFrom_step {ss : List Int} {i : Nat} (h : i < ss.length) : prodFrom ss i = ss.getD i 0 * prodFrom ss (i + 1) := by
  unfold prodFrom
  rw [List.drop_eq_getElem_cons h, List.foldr_cons, List.getD_eq_getElem?_getD, List.getElem?_eq_getElem h]
  rfl
theorem prodFrom_end {ss : List Int} {i : Nat} (h : ss.length ≤ i) : prodFrom ss i = 1 := by
  unfold prodFrom
  rw [List.drop_of_length_le h]
  rfl
theorem prodFrom_pos {ss : List Int} (h : SzOk ss) (i : Nat) : 1 ≤ prodFrom ss i ∧ prodFrom ss i ≤ 144 := by
  have h0 : ∀ i, 1 ≤ i → 1 ≤ prodFrom ss i ∧ prodFrom ss i ≤ 12 := fun i hi => by
    rcases Nat.lt_or_ge i ss.length with hl | hl
    · rw [prodFrom_step hl, prodFrom_end (i := i + 1) (by have := h.1; omega), Int.mul_one]
      exact h.2 i hl
    · rw [prodFrom_end hl]; omega
  rcases Nat.eq_zero_or_pos i with rfl | hi
  · rcases Nat.lt_or_ge 0 ss.length with hl | hl
    · rw [prodFrom_step hl]
      have h1 := h.2 0 hl
      have h2 : 1 ≤ prodFrom ss (0 + 1) ∧ prodFrom ss (0 + 1) ≤ 12 := h0 1 (Nat.le_refl _)
      have h3 : 1 * 1 ≤ ss.getD 0 0 * prodFrom ss (0 + 1) := Int.mul_le_mul h1.1 h2.1 (by omega) (by omega)
      have h4 : ss.getD 0 0 * prodFrom ss (0 + 1) ≤ 12 * 12 := Int.mul_le_mul h1.2 h2.2 (by omega) (by omega)
      omega
    · rw [prodFrom_end hl]; omega
  · have := h0 i hi; omega
theorem decTo_zero (ss : List Int) (q : Int) : decTo ss q 0 = decL ss q := by simp [decTo, decL]
theorem decTo_all {ss : List Int} (q : Int) {m : Nat} (h : ss.length ≤ m) : decTo ss q m = List.replicate ss.length 0 := by
  apply List.ext_getElem
  · simp [decTo]
  · intro i h1 h2
    have : i < m := by simp [decTo] at h1; omega
    simp [decTo, this]
theorem decTo_length (ss : List Int) (q : Int) (m : Nat) : (decTo ss q m).length = ss.length := by simp [decTo]
theorem decL_length (ss : List Int) (q : Int) : (decL ss q).length = ss.length := by simp [decL]
theorem decTo_step {ss : List Int} {q : Int} {m : Nat} (h : m < ss.length) : (decTo ss q (m + 1)).set m (q / prodFrom ss (m + 1) % ss.getD m 0) = decTo ss q m := by
  apply List.ext_getElem
  · simp [decTo]
  · intro i h1 h2
    rw [List.getElem_set]
    by_cases hi : m = i
    · subst hi
      simp [decTo]
    · by_cases hl : i < m
      · simp [decTo, hi, hl, Nat.lt_succ_of_lt hl]
      · have hl2 : ¬ i < m + 1 := by omega
        simp [decTo, hi, hl, hl2]
theorem prod_node {ss : List Int} {q : Int} {m : Nat} (h : m < ss.length) (hs : SzOk ss) : q / prodFrom ss (m + 1) / ss.getD m 0 = q / prodFrom ss m := by
  rw [Int.ediv_ediv, if_neg (by have := prodFrom_pos hs (m + 1); omega), Int.sub_zero, prodFrom_step h, Int.mul_comm]
theorem node_bd {ss : List Int} {q : Int} (hs : SzOk ss) (hq : 0 ≤ q ∧ q ≤ 1000) (m : Nat) : 0 ≤ q / prodFrom ss m ∧ q / prodFrom ss m ≤ 1000 := by
  have h1 := prodFrom_pos hs m
  have h2 : 0 ≤ q / prodFrom ss m := Int.ediv_nonneg hq.1 (by omega)
  have h3 := Int.ediv_le_self (a := q) (prodFrom ss m) hq.1
  omega
def StOk (ss st : List Int) : Prop := ∀ k, k < ss.length → 0 ≤ st.getD k 0 ∧ st.getD k 0 < ss.getD k 0
theorem enc_bd {ss st : List Int} (hs : SzOk ss) (h : StOk ss st) {k : Nat} (hk : k < ss.length) : 0 ≤ encTo ss st k ∧ encTo ss st k ≤ 11 ∧ 0 ≤ encTo ss st k * ss.getD k 0 ∧ encTo ss st k * ss.getD k 0 ≤ 132 := by
  have h2 := hs.2 k hk
  have key : 0 ≤ encTo ss st k ∧ encTo ss st k ≤ 11 := by
    cases k with
    | zero => exact ⟨Int.le_refl _, by show (0 : Int) ≤ 11; decide⟩
    | succ k =>
      have : k = 0 := by have := hs.1; omega
      subst this
      have h3 := h 0 (by omega)
      have h4 := hs.2 0 (by omega)
      show 0 ≤ 0 * _ + st.getD 0 0 ∧ 0 * _ + st.getD 0 0 ≤ 11
      rw [Int.zero_mul, Int.zero_add]
      omega
  have h3 : 0 ≤ encTo ss st k * ss.getD k 0 := Int.mul_nonneg key.1 (by omega)
  have h4 : encTo ss st k * ss.getD k 0 ≤ 11 * 12 := Int.mul_le_mul key.2 h2.2 (by omega) (by omega)
  exact ⟨key.1, key.2, h3, by omega⟩
theorem decL_at {ss : List Int} {q : Int} {k : Nat} (h : k < ss.length) : (decL ss q).getD k 0 = q / prodFrom ss (k + 1) % ss.getD k 0 := by
  simp [decL, List.getD_eq_getElem?_getD, h]
theorem decL_ok {ss : List Int} (hs : SzOk ss) (q : Int) : StOk ss (decL ss q) := fun k hk => by
  have h2 := hs.2 k hk
  rw [decL_at hk]
  exact ⟨Int.emod_nonneg _ (by omega), Int.emod_lt_of_pos _ (by omega)⟩
theorem goL_at {aas : List A} {st : List Int} {x : Int} {k : Nat} (h : k < aas.length) : (goL aas st x).getD k 0 = goA (aas.getD k zeroA) (st.getD k 0) x := by
  simp [goL, List.getD_eq_getElem?_getD, h]
theorem st_at {aas : List A} {st : List Int} (h : StOk (szs aas) st) {k : Nat} (hk : k < aas.length) : 0 ≤ st.getD k 0 ∧ st.getD k 0 < ((aas.getD k zeroA).next.length : Int) := by
  have := h k (by rw [szs_length]; exact hk)
  rw [szs_at hk] at this
  exact this
theorem goL_ok {aas : List A} (h : NetOk aas) {st : List Int} (hst : StOk (szs aas) st) {x : Int} (hx : 0 ≤ x ∧ x < 6) : StOk (szs aas) (goL aas st x) := fun k hk => by
  rw [szs_length] at hk
  rw [goL_at hk, szs_at hk]
  exact goA_in (net_at h hk).2.1 (st_at hst hk) hx
theorem enc_lt {ss st : List Int} (hs : SzOk ss) (h : StOk ss st) (h1 : 1 ≤ ss.length) : 0 ≤ encTo ss st ss.length ∧ encTo ss st ss.length < prodFrom ss 0 := by
  rcases Nat.lt_or_ge 1 ss.length with h2 | h2
  · have hl : ss.length = 2 := by have := hs.1; omega
    have a0 := h 0 (by omega)
    have a1 := h 1 (by omega)
    have b0 := hs.2 0 (by omega)
    have b1 := hs.2 1 (by omega)
    rw [hl, prodFrom_step (by omega), prodFrom_step (by omega), prodFrom_end (by omega), Int.mul_one]
    show 0 ≤ (0 * ss.getD 0 0 + st.getD 0 0) * ss.getD 1 0 + st.getD 1 0 ∧ (0 * ss.getD 0 0 + st.getD 0 0) * ss.getD 1 0 + st.getD 1 0 < ss.getD 0 0 * ss.getD (0 + 1) 0
    rw [Int.zero_mul, Int.zero_add]
    have c1 : 0 ≤ st.getD 0 0 * ss.getD 1 0 := Int.mul_nonneg a0.1 (by omega)
    have c2 : (st.getD 0 0 + 1) * ss.getD 1 0 ≤ ss.getD 0 0 * ss.getD 1 0 := Int.mul_le_mul_of_nonneg_right (by omega) (by omega)
    rw [Int.add_mul, Int.one_mul] at c2
    show 0 ≤ st.getD 0 0 * ss.getD 1 0 + st.getD 1 0 ∧ st.getD 0 0 * ss.getD 1 0 + st.getD 1 0 < ss.getD 0 0 * ss.getD 1 0
    omega
  · have hl : ss.length = 1 := by omega
    have a0 := h 0 (by omega)
    rw [hl, prodFrom_step (by omega), prodFrom_end (by omega), Int.mul_one]
    show 0 ≤ 0 * ss.getD 0 0 + st.getD 0 0 ∧ 0 * ss.getD 0 0 + st.getD 0 0 < ss.getD 0 0
    rw [Int.zero_mul, Int.zero_add]
    omega
def total (aas : List A) : Nat := (prodFrom (szs aas) 0).toNat
theorem total_bd {aas : List A} (h : NetOk aas) : 1 ≤ total aas ∧ total aas ≤ 144 ∧ ((total aas : Nat) : Int) = prodFrom (szs aas) 0 := by
  have := prodFrom_pos (szs_ok h) 0
  unfold total
  omega
theorem fN_in {aas : List A} (h : NetOk aas) (q : Int) {x : Int} (hx : 0 ≤ x ∧ x < 6) : 0 ≤ fN aas q x ∧ fN aas q x < (total aas : Int) := by
  have h1 := enc_lt (szs_ok h) (goL_ok h (decL_ok (szs_ok h) q) hx) (by rw [szs_length]; exact h.1.1)
  rw [szs_length] at h1
  rw [(total_bd h).2.2]
  exact h1
def prodTo (ss : List Int) (k : Nat) : Int := (ss.take k).foldl (· * ·) 1
theorem prodTo_succ {ss : List Int} {k : Nat} (h : k < ss.length) : prodTo ss (k + 1) = prodTo ss k * ss.getD k 0 := by
  unfold prodTo
  rw [take_snoc 0 h, List.foldl_append]
  rfl
theorem prodTo_bd {ss : List Int} (hs : SzOk ss) {k : Nat} (hk : k < ss.length) : 1 ≤ prodTo ss k ∧ prodTo ss k ≤ 12 ∧ 0 ≤ prodTo ss k * ss.getD k 0 ∧ prodTo ss k * ss.getD k 0 ≤ 144 := by
  have h2 := hs.2 k hk
  have key : 1 ≤ prodTo ss k ∧ prodTo ss k ≤ 12 := by
    cases k with
    | zero => show (1 : Int) ≤ 1 ∧ (1 : Int) ≤ 12; decide
    | succ k =>
      have : k = 0 := by have := hs.1; omega
      subst this
      rw [prodTo_succ (by omega)]
      have h4 := hs.2 0 (by omega)
      show 1 ≤ 1 * _ ∧ 1 * _ ≤ 12
      rw [Int.one_mul]
      exact h4
  have h3 : 0 ≤ prodTo ss k * ss.getD k 0 := Int.mul_nonneg (by omega) (by omega)
  have h4 : prodTo ss k * ss.getD k 0 ≤ 12 * 12 := Int.mul_le_mul key.2 h2.2 (by omega) (by omega)
  exact ⟨key.1, key.2, h3, by omega⟩
theorem foldl_mul (l : List Int) : ∀ (c : Int), l.foldl (· * ·) c = c * l.foldr (· * ·) 1 := by
  induction l with
  | nil => intro c; simp
  | cons x l ih => intro c; rw [List.foldl_cons, ih, List.foldr_cons, Int.mul_assoc]
theorem prodTo_all {ss : List Int} {k : Nat} (h : ss.length ≤ k) : prodTo ss k = prodFrom ss 0 := by
  unfold prodTo prodFrom
  rw [List.take_of_length_le h, foldl_mul, Int.one_mul, List.drop_zero]
def movesN (aas : List A) (L : List Int) : List (List (List Int)) := (List.range (total aas)).map fun (q : Nat) => L.map fun x => [fN aas (q : Int) x]
theorem moves_at {aas : List A} {L : List Int} {q : Int} (hq : 0 ≤ q ∧ q < (total aas : Int)) : (movesN aas L).getD q.toNat [] = L.map fun x => [fN aas q x] := by
  have h : q.toNat < total aas := by omega
  have e : ((q.toNat : Nat) : Int) = q := Int.toNat_of_nonneg hq.1
  simp [movesN, List.getD_eq_getElem?_getD, h, e]
section
variable {f : Int → Int → Int} {L : List Int} {G : Int → Bool} {n : Nat}
def dsAt (f : Int → Int → Int) (L : List Int) (G : Int → Bool) (n d i : Nat) : List Int := (List.range n).map fun (q : Nat) => if q < i then disTo f L G (d + 1) (q : Int) else disTo f L G d (q : Int)
def dsOf (f : Int → Int → Int) (L : List Int) (G : Int → Bool) (n d : Nat) : List Int := (List.range n).map fun (q : Nat) => disTo f L G d (q : Int)
theorem dsAt_zero (d : Nat) : dsAt f L G n d 0 = dsOf f L G n d := by simp [dsAt, dsOf]
theorem dsAt_all {d i : Nat} (h : n ≤ i) : dsAt f L G n d i = dsOf f L G n (d + 1) := by
  unfold dsAt dsOf
  refine List.map_congr_left fun q hq => ?_
  have := List.mem_range.1 hq
  rw [if_pos (by omega)]
theorem dsAt_length (d i : Nat) : (dsAt f L G n d i).length = n := by simp [dsAt]
theorem dsOf_length (d : Nat) : (dsOf f L G n d).length = n := by simp [dsOf]
theorem dsAt_get {d i : Nat} {q : Int} (hq : 0 ≤ q ∧ q < n) : (dsAt f L G n d i).getD q.toNat 0 = if q.toNat < i then disTo f L G (d + 1) q else disTo f L G d q := by
  have h : q.toNat < n := by omega
  have e : ((q.toNat : Nat) : Int) = q := Int.toNat_of_nonneg hq.1
  simp [dsAt, List.getD_eq_getElem?_getD, h, e]
theorem dsOf_get {d : Nat} {q : Int} (hq : 0 ≤ q ∧ q < n) : (dsOf f L G n d).getD q.toNat 0 = disTo f L G d q := by
  have h : q.toNat < n := by omega
  have e : ((q.toNat : Nat) : Int) = q := Int.toNat_of_nonneg hq.1
  simp [dsOf, List.getD_eq_getElem?_getD, h, e]
theorem dsAt_keep {d i : Nat} (h : disTo f L G (d + 1) (i : Int) = disTo f L G d (i : Int)) : dsAt f L G n d (i + 1) = dsAt f L G n d i := by
  unfold dsAt
  refine List.map_congr_left fun q hq => ?_
  by_cases hi : q = i
  · subst hi
    rw [if_pos (by omega), if_neg (by omega), h]
  · by_cases hl : q < i
    · rw [if_pos (by omega), if_pos hl]
    · rw [if_neg (by omega), if_neg hl]
theorem dsAt_set {d i : Nat} (hi : i < n) : (dsAt f L G n d i).set i (disTo f L G (d + 1) (i : Int)) = dsAt f L G n d (i + 1) := by
  apply List.ext_getElem
  · simp [dsAt]
  · intro j h1 h2
    rw [List.getElem_set]
    by_cases hj : i = j
    · subst hj
      simp [dsAt]
    · by_cases hl : j < i
      · simp [dsAt, hj, hl, Nat.lt_succ_of_lt hl]
      · have hl2 : ¬ j < i + 1 := by omega
        simp [dsAt, hj, hl, hl2]
theorem dis_same {d : Nat} (t : Int) : disTo f L G (d + 1) t = (d : Int) ↔ disTo f L G d t = (d : Int) := by
  rw [disTo_eq, disTo_eq]
  constructor
  · rintro ⟨_, h⟩; exact ⟨Nat.le_refl _, h⟩
  · rintro ⟨_, h⟩; exact ⟨Nat.le_succ _, h⟩
theorem any_same {α : Type} {p q : α → Bool} : ∀ {l : List α}, (∀ x ∈ l, p x = q x) → l.any p = l.any q
  | [], _ => rfl
  | x :: l, h => by rw [List.any_cons, List.any_cons, h x (by simp), any_same fun y hy => h y (by simp [hy])]
def nearX (ds : List Int) (xss : List (List Int)) (d : Int) : Bool := xss.any fun r => r.any fun x => decide (ds.getD x.toNat 0 = d)
theorem near_yes {ds : List Int} {xss : List (List Int)} {d : Int} {k i : Nat} (hk : k < xss.length) (hi : i < (xss.getD k []).length) (h : ds.getD ((xss.getD k []).getD i 0).toNat 0 = d) : nearX ds xss d = true :=
  List.any_eq_true.2 ⟨_, getD_mem hk, List.any_eq_true.2 ⟨_, getD_mem hi, decide_eq_true h⟩⟩
theorem nearX_eq {d i : Nat} (hf : ∀ q l, l ∈ L → 0 ≤ f q l ∧ f q l < n) (q : Int) : nearX (dsAt f L G n d i) (L.map fun x => [f q x]) (d : Int) = near f L G d q := by
  unfold nearX near
  rw [List.any_map]
  have h : ∀ l ∈ L, ((fun r => List.any r fun x => decide ((dsAt f L G n d i).getD x.toNat 0 = (d : Int))) ∘ fun x => [f q x]) l = decide (disTo f L G d (f q l) = (d : Int)) := fun l hl => by
    have hl2 := hf q l hl
    simp only [Function.comp, List.any_cons, List.any_nil, Bool.or_false]
    rw [dsAt_get hl2]
    by_cases hi : (f q l).toNat < i
    · rw [if_pos hi]
      by_cases hd : disTo f L G d (f q l) = (d : Int)
      · rw [decide_eq_true hd, decide_eq_true (dis_same _ |>.2 hd)]
      · rw [decide_eq_false hd, decide_eq_false (fun hc => hd (dis_same _ |>.1 hc))]
    · rw [if_neg hi]
  exact any_same h
theorem dsOf_init : dsOf f L G n 0 = (List.range n).map fun (q : Nat) => if G (q : Int) then (0 : Int) else -1 := by
  unfold dsOf
  exact List.map_congr_left fun q _ => disTo_zero
theorem moves_f {q : Int} (hq : 0 ≤ q ∧ q < n) : ((List.range n).map fun (q : Nat) => L.map fun x => [f (q : Int) x]).getD q.toNat [] = L.map fun x => [f q x] := by
  have h : q.toNat < n := by omega
  have e : ((q.toNat : Nat) : Int) = q := Int.toNat_of_nonneg hq.1
  simp [List.getD_eq_getElem?_getD, h, e]
theorem mv_ok (hf : ∀ q l, l ∈ L → 0 ≤ f q l ∧ f q l < n) (hLl : L.length ≤ 100) {d i : Nat} {q : Int} (hq : 0 ≤ q ∧ q < n) : ∀ r ∈ ((List.range n).map fun (q : Nat) => L.map fun x => [f (q : Int) x]).getD q.toNat [], r.length ≤ 1000 ∧ ∀ x ∈ r, 0 ≤ x ∧ x < ((dsAt f L G n d i).length : Int) := by
  rw [moves_f hq, dsAt_length]
  intro r hr
  obtain ⟨x, hx, rfl⟩ := List.mem_map.1 hr
  refine ⟨by simp, fun y hy => ?_⟩
  rw [List.mem_singleton.1 hy]
  exact hf q x hx
theorem dsOf_same {d : Nat} (h : ∀ j : Nat, j < n → disTo f L G (d + 1) (j : Int) = disTo f L G d (j : Int)) : dsOf f L G n (d + 1) = dsOf f L G n d := List.map_congr_left fun q hq => h q (List.mem_range.1 hq)
theorem dis_all {d : Nat} (h : ∀ j : Nat, j < n → disTo f L G (d + 1) (j : Int) = disTo f L G d (j : Int)) : ∀ q, 0 ≤ q ∧ q < (n : Int) → disTo f L G (d + 1) q = disTo f L G d q := fun q hq => by
  have := h q.toNat (by omega)
  rwa [Int.toNat_of_nonneg hq.1] at this
theorem dis_more {d k k' : Nat} {i : Int} (ei : ((k : Nat) : Int) = i) (h : ∀ j : Nat, j < k → disTo f L G (d + 1) (j : Int) = disTo f L G d (j : Int)) (h2 : disTo f L G (d + 1) (k : Int) = disTo f L G d (k : Int)) (e : k' = k + 1) : ∀ j : Nat, j < k' → disTo f L G (d + 1) (j : Int) = disTo f L G d (j : Int) := fun j hj => by
  rcases Nat.lt_or_ge j k with h3 | h3
  · exact h j h3
  · obtain rfl : j = k := by omega
    exact h2
def todo (f : Int → Int → Int) (L : List Int) (G : Int → Bool) (n d i : Nat) : Nat := (dsAt f L G n d i).countP fun x => decide (x < 0)
theorem dsAt_split {d i : Nat} (hi : i < n) : dsAt f L G n d i = (dsAt f L G n d i).take i ++ disTo f L G d (i : Int) :: (dsAt f L G n d i).drop (i + 1) := by
  have h1 : i < (dsAt f L G n d i).length := by rw [dsAt_length]; exact hi
  have e1 : dsAt f L G n d i = (dsAt f L G n d i).take i ++ (dsAt f L G n d i).drop i := (List.take_append_drop i _).symm
  have e2 : (dsAt f L G n d i).drop i = disTo f L G d (i : Int) :: (dsAt f L G n d i).drop (i + 1) := by
    rw [List.drop_eq_getElem_cons h1]
    congr 1
    simp [dsAt]
  rw [← e2]
  exact e1
theorem todo_keep {d i : Nat} (h : disTo f L G (d + 1) (i : Int) = disTo f L G d (i : Int)) : todo f L G n d (i + 1) = todo f L G n d i := by unfold todo; rw [dsAt_keep h]
theorem todo_less {d i : Nat} (hi : i < n) (h : disTo f L G d (i : Int) < 0) (h2 : 0 ≤ disTo f L G (d + 1) (i : Int)) : todo f L G n d (i + 1) + 1 = todo f L G n d i := by
  unfold todo
  have e1 := dsAt_split (f := f) (L := L) (G := G) (d := d) hi
  rw [← dsAt_set hi, e1, List.set_append_right _ _ (by rw [List.length_take, dsAt_length]; omega)]
  rw [List.length_take, dsAt_length, Nat.min_eq_left (by omega), Nat.sub_self, List.set_cons_zero]
  simp only [List.countP_append, List.countP_cons]
  rw [if_neg (by simp; omega), if_pos (by simpa using h)]
  omega
theorem todo_round (d : Nat) (i : Nat) (h : n ≤ i) : todo f L G n d i = todo f L G n (d + 1) 0 := by unfold todo; rw [dsAt_all h, dsAt_zero]
theorem todo_le (d i : Nat) : todo f L G n d i ≤ n := by
  unfold todo
  refine Nat.le_trans List.countP_le_length ?_
  rw [dsAt_length]
  exact Nat.le_refl _
def dsInit (G : Int → Bool) (n i : Nat) : List Int := (List.range n).map fun (q : Nat) => if q < i then (if G (q : Int) then 0 else -1) else 0
theorem dsInit_zero : dsInit G n 0 = List.replicate n 0 := by
  apply List.ext_getElem <;> simp [dsInit]
theorem dsInit_length (i : Nat) : (dsInit G n i).length = n := by simp [dsInit]
theorem dsInit_all {i : Nat} (h : n ≤ i) : dsInit G n i = dsOf f L G n 0 := by
  rw [dsOf_init]
  unfold dsInit
  refine List.map_congr_left fun q hq => ?_
  have := List.mem_range.1 hq
  rw [if_pos (by omega)]
theorem dsInit_set {i : Nat} (hi : i < n) {x : Int} (hx : x = if G (i : Int) then 0 else -1) : (dsInit G n i).set i x = dsInit G n (i + 1) := by
  apply List.ext_getElem
  · simp [dsInit]
  · intro j h1 h2
    rw [List.getElem_set]
    by_cases hj : i = j
    · subst hj
      simp [dsInit, hx]
    · by_cases hl : j < i
      · simp [dsInit, hj, hl, Nat.lt_succ_of_lt hl]
      · have hl2 : ¬ j < i + 1 := by omega
        simp [dsInit, hj, hl, hl2]
theorem dsInit_F {v : Int} {i : Nat} (hi : i < n) (hv : ((i : Nat) : Int) = v) (h : G v = false) : ((dsInit G n i).map (Value.int .i64)).set i (.int .i64 (-1)) = (dsInit G n (i + 1)).map (Value.int .i64) := by
  rw [← List.map_set, dsInit_set hi (by rw [hv, h]; rfl)]
theorem dsInit_T {v : Int} {i : Nat} (hi : i < n) (hv : ((i : Nat) : Int) = v) (h : G v = true) : (((dsInit G n i).map (Value.int .i64)).set i (.int .i64 (-1))).set i (.int .i64 0) = (dsInit G n (i + 1)).map (Value.int .i64) := by
  rw [List.set_set, ← List.map_set, dsInit_set hi (by rw [hv, h]; rfl)]
theorem disTo_next {d n : Nat} {q : Int} (h : disTo f L G d q = ((n + 1 : Nat) : Int)) : ∃ l ∈ L, disTo f L G d (f q l) = (n : Int) := by
  have h1 := disTo_eq.1 h
  obtain ⟨l, hl, hl2⟩ := List.any_eq_true.1 h1.2.1
  refine ⟨l, hl, disTo_eq.2 ⟨by omega, hl2, fun m hm => ?_⟩⟩
  cases hm2 : lev f L G m (f q l) with
  | false => rfl
  | true =>
    have h5 : lev f L G (m + 1) q = true := List.any_eq_true.2 ⟨l, hl, hm2⟩
    rw [h1.2.2 (m + 1) (by omega)] at h5
    cases h5
theorem find_first {α : Type} {p : α → Bool} {d : α} : ∀ {L : List α} {k : Nat}, k < L.length → (∀ j, j < k → p (L.getD j d) = false) → p (L.getD k d) = true → L.find? p = some (L.getD k d)
  | x :: L, 0, _, _, h => by
    have h' : p x = true := h
    rw [List.find?_cons_of_pos h']; rfl
  | x :: L, k + 1, hk, hno, h => by
    have h0 : p x = false := hno 0 (by omega)
    rw [List.find?_cons_of_neg (by rw [h0]; decide)]
    exact find_first (by simpa using hk) (fun j hj => hno (j + 1) (by omega)) h
theorem gre_next {dis : Int → Int} {m k : Nat} {q : Int} (hk : k < L.length) (hno : ∀ j, j < k → ¬ dis (f q (L.getD j 0)) = (m : Int)) (h : dis (f q (L.getD k 0)) = (m : Int)) : gre f L dis (m + 1) q = L.getD k 0 :: gre f L dis m (f q (L.getD k 0)) := by
  rw [gre, find_first (p := fun l => decide (dis (f q l) = (m : Int))) hk (fun j hj => decide_eq_false (hno j hj)) (decide_eq_true h)]
theorem next_lt {d k : Nat} {q e : Int} (hq : disTo f L G d q = e) (he : 0 < e) (hno : ∀ j, j < k → ¬ disTo f L G d (f q (L.getD j 0)) = e - 1) : k < L.length := by
  obtain ⟨m, rfl⟩ : ∃ m : Nat, e = ((m + 1 : Nat) : Int) := ⟨(e - 1).toNat, by omega⟩
  obtain ⟨l, hl, h⟩ := disTo_next hq
  rcases Nat.lt_or_ge k L.length with h1 | h1
  · exact h1
  · obtain ⟨j, hj, rfl⟩ := List.getElem_of_mem hl
    refine absurd ?_ (hno j (by omega))
    rw [List.getD_eq_getElem?_getD, List.getElem?_eq_getElem hj]
    show disTo f L G d (f q L[j]) = _
    rw [h]
    omega
theorem disTo_le {d : Nat} {q : Int} : disTo f L G d q ≤ d := by
  rcases disTo_cases (f := f) (L := L) (G := G) d q with h | ⟨n, h, h2⟩ <;> omega
theorem ord_range {s : Int} (hf : ∀ q l, l ∈ L → 0 ≤ f q l ∧ f q l < (n : Int)) (hs : 0 ≤ s ∧ s < (n : Int)) : (ord f s L).length ≤ n := by
  have h := bfsw_range (f := f) (s := s) (L := L) (n := n) (D := fun q => 0 ≤ q ∧ q < (n : Int)) hs (fun q _ x hx => hf q x hx) (fun q hq => hq) (many 0)
  rw [bfsw_length] at h
  exact h
theorem row_get {q : Int} {k : Nat} (hk : k < L.length) : (L.map fun x => [f q x]).getD k [] = [f q (L.getD k 0)] := by
  simp [List.getD_eq_getElem?_getD, hk]
end
theorem Ret.resW {P : Program} {k : FuncId} {args : Array Value} {w0 : World} {X Y : Option (List Int)} (h : Ret P k args w0 (fun v w => v = Go.Proofs.Ytoboklelbbgcnaa.resW X ∧ Ext w0 w)) (e : X = Y) : Ret P k args w0 (fun v w => v = Go.Proofs.Ytoboklelbbgcnaa.resW Y ∧ Ext w0 w) := by rw [← e]; exact h
section
variable {w : World} {B : Nat} {AU SI I Bo : TypeId} {v nx ac nx' ac' : Value} {a b : A}
theorem NetA.of2 (hW : Wid w B AU 3 v [[.int .i64 a.al, nx, ac], [.int .i64 b.al, nx', ac']]) (h1 : Rows w SI I nx a.next) (h2 : Bools w Bo ac a.acc) (h1' : Rows w SI I nx' b.next) (h2' : Bools w Bo ac' b.acc) : NetA w AU SI I Bo v [a, b] :=
  ⟨B, _, hW, rfl, fun j x hx => by
    match j, hx with
    | 0, hx => obtain rfl : a = x := by simpa using hx
               exact ⟨nx, ac, rfl, h1, h2⟩
    | 1, hx => obtain rfl : b = x := by simpa using hx
               exact ⟨nx', ac', rfl, h1', h2'⟩
    | j + 2, hx => simp at hx⟩
theorem netOk2 (h : validA a = true) (h' : validA b = true) : NetOk [a, b] := ⟨⟨by show 1 ≤ 2; decide, Nat.le_refl _⟩, fun x hx => by
  rcases List.mem_cons.1 hx with rfl | hx
  · exact h
  · rw [List.mem_singleton.1 hx]; exact h'⟩
theorem stOk2 {i j : Int} (h : 0 ≤ i ∧ i < a.next.length) (h' : 0 ≤ j ∧ j < b.next.length) : StOk (szs [a, b]) [i, j] := fun k hk => by
  have : k = 0 ∨ k = 1 := by simp [szs] at hk; omega
  rcases this with rfl | rfl
  · exact h
  · exact h'
theorem dec2 {p : Int × Int} (h : In2 a b p) : decL (szs [a, b]) (enc2 b p) = [p.1, p.2] := by
  show [enc2 b p / ((b.next.length : Int) * 1) % (a.next.length : Int), enc2 b p / 1 % (b.next.length : Int)] = [p.1, p.2]
  rw [Int.mul_one, Int.ediv_one, (enc_div h).1, (enc_div h).2, Int.emod_eq_of_lt h.1.1 h.1.2]
theorem fN2 {p : Int × Int} {l : Int} (h : In2 a b p) : fN [a, b] (enc2 b p) l = enc2 b (step2 a b p l) := by
  unfold fN
  rw [dec2 h]
  show ((0 : Int) * _ + goA a p.1 l) * (b.next.length : Int) + goA b p.2 l = _
  rw [Int.zero_mul, Int.zero_add]
  rfl
theorem net2 {i j : Int} {g : Bool → Bool → Bool} {kd gl : Int} (hv : validA a = true) (hv' : validA b = true) (hp : In2 a b (i, j)) (hG : ∀ p q, foundN kd gl [a, b] [p, q] = g (accA a p) (accA b q)) : firstOf (fN [a, b]) (encTo (szs [a, b]) [i, j] (szs [a, b]).length) (letters a.al) (fun q => foundN kd gl [a, b] (decL (szs [a, b]) q)) = firstAB a b (i, j) g := by
  have e : encTo (szs [a, b]) [i, j] (szs [a, b]).length = enc2 b (i, j) := by
    show ((0 : Int) * _ + i) * (b.next.length : Int) + j = _
    rw [Int.zero_mul, Int.zero_add]; rfl
  rw [e]
  exact firstOf_map (P := In2 a b) (g := enc2 b) enc_inj hp (fun q hq l hl => in2 hv hv' hq ⟨(mem_letters hl).1, (mem_letters hl).2.1⟩) (fun q hq l _ => fN2 hq) (fun q hq => by show foundN kd gl [a, b] (decL (szs [a, b]) (enc2 b q)) = _; rw [dec2 hq, hG])
end
end Go.Proofs.Ytoboklelbbgcnaa
set_option linter.unusedSimpArgs false
set_option linter.unusedVariables false
namespace Go.Proofs.Ytoboklelbbgcnaa
def IsFirst (L : List Int) (G : List Int → Bool) : Option (List Int) → Prop
  | some w => (∀ x ∈ w, x ∈ L) ∧ G w = true ∧ ∀ v : List Int, (∀ x ∈ v, x ∈ L) → G v = true → sle w v
  | none => ∀ v : List Int, (∀ x ∈ v, x ∈ L) → G v = false
theorem IsFirst.isSome {L : List Int} {G : List Int → Bool} {o : Option (List Int)} (h : IsFirst L G o) : o.isSome = true ↔ ∃ v : List Int, (∀ x ∈ v, x ∈ L) ∧ G v = true := by
  cases o with
  | none => exact ⟨fun h' => (by cases h'), fun ⟨v, hv, hg⟩ => by rw [h v hv] at hg; cases hg⟩
  | some w => exact ⟨fun _ => ⟨w, h.1, h.2.1⟩, fun _ => rfl⟩
theorem IsFirst.isNone {L : List Int} {G : List Int → Bool} {o : Option (List Int)} (h : IsFirst L G o) : o.isSome = false ↔ ∀ v : List Int, (∀ x ∈ v, x ∈ L) → G v = false := by
  cases o with
  | none => exact ⟨fun _ => h, fun _ => rfl⟩
  | some w => exact ⟨fun h' => (by cases h'), fun h' => by have := h' w h.1; rw [h.2.1] at this; cases this⟩
section
variable {a b : A}
theorem node2 : ∀ (w : List Int) (p : Int × Int), nodeOf (step2 a b) p w = (run a p.1 w, run b p.2 w)
  | [], p => rfl
  | x :: w, p => node2 w (step2 a b p x)
theorem ord2_le (hv : validA a = true) (hv' : validA b = true) {p : Int × Int} (hp : In2 a b p) {al : Int} : (ord (step2 a b) p (letters al)).length ≤ a.next.length * b.next.length := by
  have h := bfsw_range (f := fP a b) (s := enc2 b p) (L := letters al) (n := a.next.length * b.next.length) (D := InP a b) (inP_enc hp) (fun q hq x hx => fP_in hv hv' hq ⟨(mem_letters hx).1, (mem_letters hx).2.1⟩) (fun q hq => hq) (many 0)
  rw [bfsw_map' (P := In2 a b) enc_inj hp (fun q hq l hl => in2 hv hv' hq ⟨(mem_letters hl).1, (mem_letters hl).2.1⟩) (fun q hq l _ => fP_enc hq l), bfsw_length] at h
  exact h
theorem isFirst_AB (hv : validA a = true) (hv' : validA b = true) {p : Int × Int} (hp : In2 a b p) (g : Bool → Bool → Bool) : IsFirst (letters a.al) (fun w => g (accA a (run a p.1 w)) (accA b (run b p.2 w))) (firstAB a b p g) := by
  have hl : (ord (step2 a b) p (letters a.al)).length ≤ 200 := by have := ord2_le hv hv' hp (al := a.al); have := le144 hv hv'; omega
  unfold firstAB
  cases h : firstOf (step2 a b) p (letters a.al) (fun p => g (accA a p.1) (accA b p.2)) with
  | none =>
    intro v hv
    have := first_none (letters_sorted _) hl h v hv
    rw [node2] at this
    exact this
  | some w =>
    have h1 := first_some (letters_sorted _) hl h
    rw [node2] at h1
    refine ⟨ordw_over (letters_sorted _) h1.1, h1.2.1, fun v hv hg => h1.2.2 v hv ?_⟩
    rw [node2]
    exact hg
theorem firstAB_short (hv : validA a = true) (hv' : validA b = true) {p : Int × Int} (hp : In2 a b p) {g : Bool → Bool → Bool} {w : List Int} (h : firstAB a b p g = some w) : w.length + 1 ≤ a.next.length * b.next.length := by
  have hl : (ord (step2 a b) p (letters a.al)).length ≤ 200 := by have := ord2_le hv hv' hp (al := a.al); have := le144 hv hv'; omega
  have h1 := first_some (letters_sorted _) hl h
  exact Nat.le_trans (ordw_short (letters_sorted _) h1.1) (ord2_le hv hv' hp)
theorem isFirst_two (hC : cmp2 a b = true) (g : Bool → Bool → Bool) : IsFirst (letters a.al) (fun w => g (accA a (run a 0 w)) (accA b (run b 0 w))) (fTwo a b g) := by
  have h := cmp2_spec.1 hC
  rw [fTwo, if_pos hC]
  exact isFirst_AB h.1 h.2.1 (in_zero h.1 h.2.1) g
theorem fTwo_no (hC : cmp2 a b = false) (g : Bool → Bool → Bool) : fTwo a b g = none := by rw [fTwo, if_neg (by rw [hC]; decide)]
end
end Go.Proofs.Ytoboklelbbgcnaa
set_option linter.unusedSimpArgs false
set_option linter.unusedVariables false
namespace Go.Proofs.Ytoboklelbbgcnaa
section
variable {a b : A}
theorem word_over {s : ByteArray} {al : Int} (h : within s al = true) : ∀ x ∈ lts s, x ∈ letters al := word_letters h
theorem two_cmp {g : Bool → Bool → Bool} (h : (fTwo a b g).isSome = true) : cmp2 a b = true := by
  cases hC : cmp2 a b with
  | true => rfl
  | false => rw [fTwo_no hC] at h; cases h
end
section
open Classical
variable {α : Type} {f : α → Int → α} {L : List Int} {G : α → Bool} {U : List α}
def Alike (f : α → Int → α) (L : List Int) (G : α → Bool) (k : Nat) (x y : α) : Prop := ∀ w : List Int, w.length < k → (∀ l ∈ w, l ∈ L) → G (nodeOf f x w) = G (nodeOf f y w)
theorem Alike.refl (k : Nat) (x : α) : Alike f L G k x x := fun _ _ _ => rfl
theorem Alike.symm {k : Nat} {x y : α} (h : Alike f L G k x y) : Alike f L G k y x := fun w h1 h2 => (h w h1 h2).symm
theorem Alike.trans {k : Nat} {x y z : α} (h : Alike f L G k x y) (h' : Alike f L G k y z) : Alike f L G k x z := fun w h1 h2 => (h w h1 h2).trans (h' w h1 h2)
end
section
variable {a b : A}
end
end Go.Proofs.Ytoboklelbbgcnaa
set_option linter.unusedSimpArgs false
set_option linter.unusedVariables false
namespace Go.Proofs.Ytoboklelbbgcnaa
def accW (a : A) (w : List Int) : Bool := accA a (run a 0 w)
section
variable {a b : A}
theorem within_iff (hC : cmp2 a b = true) : withinL a b = true ↔ ∀ v : List Int, (∀ x ∈ v, x ∈ letters a.al) → accW a v = true → accW b v = true := by
  have h := (isFirst_two hC (fun x y => x && !y)).isNone
  rw [withinL, hC, Bool.true_and, Bool.not_eq_true']
  unfold fOut
  rw [h]
  constructor
  · intro hh v hv ha
    have := hh v hv
    revert this
    rw [show accA a (run a 0 v) = true from ha]
    show (true && !accW b v) = false → _
    cases accW b v <;> simp
  · intro hh v hv
    have := hh v hv
    revert this
    show (accW a v = true → accW b v = true) → (accW a v && !accW b v) = false
    cases accW a v <;> cases accW b v <;> simp
theorem within_cmp (h : withinL a b = true) : cmp2 a b = true := by rw [withinL, Bool.and_eq_true] at h; exact h.1
theorem accepts_accW {s : ByteArray} (hv : validA a = true) (hw : within s a.al = true) : accepts a s = accW a (lts s) := accepts_run hv hw
theorem within_accepts {s : ByteArray} (h : withinL a b = true) (ha : accepts a s = true) : accepts b s = true := by
  have hC := within_cmp h
  have hc := cmp2_spec.1 hC
  have hs := accepts_spec ha
  rw [accepts_accW hc.2.1 (by rw [← hc.2.2]; exact hs.2)]
  exact (within_iff hC).1 h _ (word_over hs.2) (by rw [← accepts_accW hs.1 hs.2]; exact ha)
theorem row_map (hv : validA a = true) {q : Int} (hq : 0 ≤ q ∧ q < a.next.length) : a.next.getD q.toNat [] = (letters a.al).map (goA a q) := by
  rw [← extRow_same hv (q := q.toNat) (by omega)]
  unfold extRow
  rw [Int.toNat_of_nonneg hq.1]
theorem sum_le {α : Type} {f g : α → Int} : ∀ {l : List α}, (∀ x ∈ l, f x ≤ g x) → (l.map f).sum ≤ (l.map g).sum
  | [], _ => Int.le_refl _
  | x :: l, h => by
    have := sum_le fun y hy => h y (List.mem_cons_of_mem _ hy)
    have := h x (List.mem_cons_self ..)
    rw [List.map_cons, List.map_cons, List.sum_cons, List.sum_cons]
    omega
theorem wAcc_le (hC : cmp2 a b = true) : ∀ (m : Nat) (q r : Int), (0 ≤ q ∧ q < a.next.length) → (0 ≤ r ∧ r < b.next.length) → (∀ v : List Int, (∀ x ∈ v, x ∈ letters a.al) → accA a (run a q v) = true → accA b (run b r v) = true) → wAcc a m q.toNat ≤ wAcc b m r.toNat := fun m => by
  have hc := cmp2_spec.1 hC
  induction m with
  | zero =>
    intro q r hq hr h
    have := h [] (by simp)
    unfold wAcc
    revert this
    show (a.acc.getD q.toNat false = true → b.acc.getD r.toNat false = true) → _
    cases a.acc.getD q.toNat false <;> cases b.acc.getD r.toNat false <;> simp
  | succ m ih =>
    intro q r hq hr h
    have h0 := h [] (by simp)
    unfold wAcc
    rw [row_map hc.1 hq, row_map hc.2.1 hr, ← hc.2.2, List.map_map, List.map_map]
    have h1 : ((letters a.al).map ((fun t => wAcc a m t.toNat) ∘ goA a q)).sum ≤ ((letters a.al).map ((fun t => wAcc b m t.toNat) ∘ goA b r)).sum := sum_le fun l hl => by
      have hx : 0 ≤ l ∧ l < 6 := ⟨(mem_letters hl).1, (mem_letters hl).2.1⟩
      exact ih _ _ (goA_in hc.1 hq hx) (goA_in hc.2.1 hr hx) fun v hv => h (l :: v) fun x hx => (List.mem_cons.1 hx).elim (fun e => e ▸ hl) (hv x)
    revert h0
    show (a.acc.getD q.toNat false = true → b.acc.getD r.toNat false = true) → _
    cases a.acc.getD q.toNat false <;> cases b.acc.getD r.toNat false <;> simp <;> omega
theorem count_dot {n : Int} (hv : validA a = true) (hn : 0 ≤ n ∧ n ≤ 7) : count a n = wAcc a n.toNat 0 := by
  have h1 := (validA_spec.1 hv).2.1
  rw [count_good hv hn, cnt_dot hv _ _ (start_length a)]
  have := dot_set (v := List.replicate a.next.length 0) (f := wAcc a n.toNat) (t := 0) (c := 1) (by simp; omega)
  rw [show (List.replicate a.next.length (0 : Int)).getD 0 0 = 0 by rw [List.getD_eq_getElem?_getD, List.getElem?_replicate]; split <;> rfl, dot_replicate] at this
  unfold start
  simpa using this
theorem count_within {n : Int} (h : withinL a b = true) (hn : 0 ≤ n ∧ n ≤ 7) : count a n ≤ count b n := by
  have hC := within_cmp h
  have hc := cmp2_spec.1 hC
  rw [count_dot hc.1 hn, count_dot hc.2.1 hn]
  exact wAcc_le hC _ 0 0 (zero_in hc.1) (zero_in hc.2.1) ((within_iff hC).1 h)
end
end Go.Proofs.Ytoboklelbbgcnaa
set_option linter.unusedSimpArgs false
set_option linter.unusedVariables false
namespace Go.Proofs.Ytoboklelbbgcnaa
section
variable {κ μ : Type} [DecidableEq κ] [DecidableEq μ] {xs : List κ}
def dd (xs : List κ) : List κ := addAll [] xs
def canon (xs : List κ) : List Int := xs.map fun x => (idxG (dd xs) x : Int)
end
section
variable {a : A}
def keyQ (a : A) (cs : List Int) (q : Nat) : List Int := cs.getD q 0 :: (a.next.getD q []).map fun t => cs.getD t.toNat 0
def keys (a : A) (cs : List Int) : List (List Int) := (List.range a.next.length).map (keyQ a cs)
def refine' (a : A) (cs : List Int) : List Int := canon (keys a cs)
def cls0 (a : A) : List Int := a.acc.map fun b => if b then 1 else 0
def clsN (a : A) : Nat → List Int
  | 0 => cls0 a
  | r + 1 => refine' a (clsN a r)
def classes (a : A) : List Int := clsN a (a.next.length + 1)
end
end Go.Proofs.Ytoboklelbbgcnaa
set_option linter.unusedSimpArgs false
set_option linter.unusedVariables false
namespace Go.Proofs.Ytoboklelbbgcnaa
def rowQ (a : A) (cs : List Int) (q : Nat) : List Int := (a.next.getD q []).map fun t => cs.getD t.toNat 0
def quo (a : A) (cs : List Int) : A := ⟨a.al, (dd cs).map fun c => rowQ a cs (cs.idxOf c), (dd cs).map fun c => a.acc.getD (cs.idxOf c) false⟩
section
variable {a b : A}
def rep (a : A) (c : Nat) : Nat := (classes a).idxOf (c : Int)
end
section
variable {α β : Type} [DecidableEq α] [DecidableEq β] {f : α → Int → α} {s : α} {L : List Int} {f' : β → Int → β} {g : α → β}
def pick (f' : β → Int → β) (s' : β) (us : List (List Int)) (ws : List (List Int)) : List (List Int) := ws.foldl (fun us w => wadd f' s' us w) us
end
section
variable {a : A}
end
end Go.Proofs.Ytoboklelbbgcnaa
set_option linter.unusedSimpArgs false
set_option linter.unusedVariables false
namespace Go.Proofs.Ytoboklelbbgcnaa
open Go.RowKit
section
variable {P : Program} {N : Nat} {ops : Array Oper} {Q : Exit → Act → World → Prop} {rest : List Oper} {l : Slots} {w : World}
variable {d : Nat} {ty : TypeId} {pos : String} {after : Array Edge} {g : Option (Nat × Bool)}
end
section
variable {a b : A}
theorem two_size {g : Bool → Bool → Bool} : (txt ((fTwo a b g).getD [])).size ≤ 150 := by
  cases hd : fTwo a b g with
  | none => exact Nat.zero_le _
  | some w =>
    have hC : cmp2 a b = true := two_cmp (g := g) (by rw [hd]; rfl)
    have hc := cmp2_spec.1 hC
    rw [fTwo, if_pos hC] at hd
    have := firstAB_short hc.1 hc.2.1 (in_zero hc.1 hc.2.1) hd
    have := le144 hc.1 hc.2.1
    show (txt w).size ≤ 150
    rw [txt_size]
    omega
theorem dif_size : (txt ((fDif a b).getD [])).size ≤ 150 := two_size
end
end Go.Proofs.Ytoboklelbbgcnaa
set_option linter.unusedSimpArgs false
set_option linter.unusedVariables false
namespace Go.Proofs.Ytoboklelbbgcnaa
set_option maxRecDepth 100000
theorem slw67 : SlW Try.prog 67 26 (.agg #[.int .i64 0, .slice none 0 0, .slice none 0 0]) 3 := ⟨by kernel_rfl, ⟨_, rfl, by kernel_rfl, by kernel_rfl, by decide⟩, by kernel_rfl, by decide⟩
theorem slw106 : SlW Try.prog 106 108 (.agg #[.int .i64 0, .int .i64 0, .slice none 0 0]) 3 := ⟨by kernel_rfl, ⟨_, rfl, by kernel_rfl, by kernel_rfl, by decide⟩, by kernel_rfl, by decide⟩
end Go.Proofs.Ytoboklelbbgcnaa
set_option linter.unusedSimpArgs false
set_option linter.unusedVariables false
namespace Go.Proofs.Ytoboklelbbgcnaa
open Go.RowKit
set_option maxRecDepth 100000 in
theorem l3Copy_c (w0 : World) (a : A) (nx ac : Value) (hnx : Rows w0 55 3 nx a.next) (hac : Bools w0 4 ac a.acc) (hf : Fit a) : Ret Try.prog 75 #[Value.agg #[Value.int .i64 a.al, nx, ac]] w0 (fun v w => OwnA w w0.heap.size v a ∧ Ext w0 w) := by
  have E := Ext.refl w0
  refine Ret.of (args := [Value.agg #[Value.int .i64 a.al, nx, ac]]) Try.func75 rfl rfl rfl ?_
  rintro _ rfl
  show Cq _ _ _ _ [(0, Value.agg #[Value.int .i64 a.al, nx, ac])] _
  refine Cq.seq ?_
  refine Cq.region ?_
  refine Sq.box .plain rfl rfl (fun b1 w2 e3 hB4 hlo5 => ?_)
  have hd6 := Nat.le_trans (Below.size E) hlo5
  have hs7 := Below.size e3
  replace E := E.trans e3
  refine Sq.alloc zero26 .plain rfl (fun b8 w9 e10 hB11 hlo12 => ?_)
  have hd13 := Nat.le_trans (Below.size E) hlo12
  have hd14 := Nat.lt_of_lt_of_le hB4.lt hlo12
  have hs15 := Below.size e10
  replace E := E.trans e10
  replace hB4 := hB4.ext e10
  refine Sq.nil ?_
  refine Eq.next ?_
  refine Cq.seq ?_
  refine Cq.cut (fun ls w => ∃ (b3 : Nat), ∃ (ac3 : Value), ls = [(1, Value.pointer (some ⟨b1, 0, none⟩)), (2, Value.pointer (some ⟨b8, 0, none⟩)), (3, Value.pointer (some ⟨b3, 0, none⟩))] ∧ Blk w b3 26 [Value.int .i64 a.al, Value.slice none 0 0, ac3] ∧ (w0.heap.size ≤ b3 ∧ b1 < b3 ∧ b8 < b3) ∧ Own w w0.heap.size 4 ac3 (a.acc.map Value.bool) ∧ Ext w0 w ∧ Blk w b1 26 [Value.int .i64 a.al, nx, ac] ∧ Blk w b8 26 [Value.int .i64 0, Value.slice none 0 0, Value.slice none 0 0]) ?_ ?_
  · refine Cq.draw 8 none mixed (fun w16 e17 => ?_)
    have hs18 := Below.size e17
    replace E := E.trans e17
    replace hB4 := hB4.ext e17
    replace hB11 := hB11.ext e17
    have hB4_w16 := hB4
    refine Gq.st 0 rfl (by kernel_rfl) rfl .plain rfl (fun _ _ _ h => h) (World.grownBy.refl w16 _) (fun w' x => Still.fieldAddr fld26_0 rfl) ?_
    refine Gq.st 1 rfl (by kernel_rfl) rfl .plain rfl (fun _ _ _ h => h) (World.grownBy.refl w16 _) (fun w' x => Still.loadB one3 rfl (hB4_w16.ext (Ext.of_grown x)) rfl) ?_
    refine Gq.st 3 rfl (by kernel_rfl) rfl .plain rfl (fun _ _ _ h => h) (World.grownBy.refl w16 _) (fun w' x => Still.fieldAddr fld26_2 rfl) ?_
    refine Gq.st 4 rfl (by kernel_rfl) rfl .plain rfl (fun _ _ _ h => h) (World.grownBy.refl w16 _) (fun w' x => Still.loadB one24 rfl (hB4_w16.ext (Ext.of_grown x)) rfl) ?_
    refine Gq.two 2 7 rfl rfl (by kernel_rfl) ?_ ?_
    · refine Sq.lit sl24 rfl rfl .plain rfl rfl one_nil (fun b19 w20 e21 hlo22 ho23 _ => ?_)
      replace ho23 := ho23 w16.heap.size (Nat.le_refl _)
      have hs25 := Below.size e21
      replace E := E.trans e21
      replace hB4 := hB4.ext e21
      replace hB11 := hB11.ext e21
      refine Sq.nil ?_
      refine Eq.goes (fun _ => (grown_trans (World.grownBy.refl w16 _) (Ext.to_grown e21 _))) ?_
      refine Gq.two 5 7 rfl rfl (by kernel_rfl) ?_ ?_
      · refine Sq.app sl24 ho23 (by omega) (hac.ext E) (one_bools _) (by rw [List.length_map]; simp only [List.length_nil, Nat.zero_add]; first | (have := hf.acc; omega) | omega) .plain rfl rfl rfl rfl (fun v26 w27 ho29 g28 => ?_)
        have hs30 := g28.size
        replace E := E.owned ho23 g28 (by omega)
        replace hB4 := hB4.owned ho23 g28 (by decide)
        replace hB11 := hB11.owned ho23 g28 (by decide)
        simp only [List.nil_append] at ho29
        refine Sq.nil ?_
        refine Eq.goes (fun _ => (grown_new (grown_trans (World.grownBy.refl w16 _) (Ext.to_grown e21 _)) ho23 g28 (by omega))) ?_
        refine Gq.st 6 rfl (by kernel_rfl) rfl .plain rfl (fun _ _ _ h => h) (grown_new (grown_trans (World.grownBy.refl w16 _) (Ext.to_grown e21 _)) ho23 g28 (by omega)) (fun w' x => Still.build st26 rfl rfl rfl (one_cons rfl (one_cons (Row.one (Own.row ho29)) one_nil)) rfl) ?_
        refine Gq.one 7 rfl (by kernel_rfl) ?_
        refine Sq.alloc zero26 .plain rfl (fun b31 w32 e33 hB34 hlo35 => ?_)
        have hd36 := Nat.le_trans (Below.size E) hlo35
        have hd37 := Nat.lt_of_lt_of_le hB4.lt hlo35
        have hd38 := Nat.lt_of_lt_of_le hB11.lt hlo35
        have hs39 := Below.size e33
        replace E := E.trans e33
        replace hB4 := hB4.ext e33
        replace hB11 := hB11.ext e33
        replace ho29 := ho29.ext e33
        refine Sq.nil ?_
        refine Eq.goes (fun _ => (grown_trans (grown_new (grown_trans (World.grownBy.refl w16 _) (Ext.to_grown e21 _)) ho23 g28 (by omega)) (Ext.to_grown e33 _))) ?_
        refine Gq.one 8 rfl (by kernel_rfl) ?_
        refine Sq.storeAgg agg26 .plain rfl rfl (one_cons rfl (one_cons rfl (one_cons (Row.one (Own.row ho29)) one_nil))) hB34 rfl rfl (fun w40 g41 hB42 => ?_)
        have hs43 := World.grownBy.size g41
        replace E := E.grown g41 (fun k hk => by injection hk with hk; subst hk; omega)
        replace hB4 := hB4.grown g41 (by intro h; injection h with h; omega)
        replace hB11 := hB11.grown g41 (by intro h; injection h with h; omega)
        replace ho29 := ho29.stored g41 hB34 (by decide)
        replace hB34 := hB42
        refine Sq.nil ?_
        refine Eq.goes (fun h => absurd h (by decide)) ?_
        refine Gq.done (by kernel_rfl) ?_
        refine Eq.left _ ⟨b31, v26, rfl, hB34, by omega, Own.mono ho29 (by omega), E, hB4, hB11⟩ (.cons rfl (.cons rfl (.cons rfl (.nil))))
      refine Sq.alloc zero26 .plain rfl (fun b44 w45 e46 hB47 hlo48 => ?_)
      have hd49 := Nat.le_trans (Below.size E) hlo48
      have hd50 := Nat.lt_of_lt_of_le hB4.lt hlo48
      have hd51 := Nat.lt_of_lt_of_le hB11.lt hlo48
      have hs52 := Below.size e46
      replace E := E.trans e46
      replace hB4 := hB4.ext e46
      replace hB11 := hB11.ext e46
      replace ho23 := ho23.ext e46
      refine Sq.nil ?_
      refine Eq.goes (fun _ => (grown_trans (grown_trans (World.grownBy.refl w16 _) (Ext.to_grown e21 _)) (Ext.to_grown e46 _))) ?_
      refine Gq.one 5 rfl (by kernel_rfl) ?_
      refine Sq.app sl24 ho23 (by omega) (hac.ext E) (one_bools _) (by rw [List.length_map]; simp only [List.length_nil, Nat.zero_add]; first | (have := hf.acc; omega) | omega) .plain rfl rfl rfl rfl (fun v53 w54 ho56 g55 => ?_)
      have hs57 := g55.size
      replace E := E.owned ho23 g55 (by omega)
      replace hB4 := hB4.owned ho23 g55 (by decide)
      replace hB11 := hB11.owned ho23 g55 (by decide)
      replace hB47 := hB47.owned ho23 g55 (by decide)
      simp only [List.nil_append] at ho56
      refine Sq.nil ?_
      refine Eq.goes (fun _ => (grown_new (grown_trans (grown_trans (World.grownBy.refl w16 _) (Ext.to_grown e21 _)) (Ext.to_grown e46 _)) ho23 g55 (by omega))) ?_
      refine Gq.st 6 rfl (by kernel_rfl) rfl .plain rfl (fun _ _ _ h => h) (grown_new (grown_trans (grown_trans (World.grownBy.refl w16 _) (Ext.to_grown e21 _)) (Ext.to_grown e46 _)) ho23 g55 (by omega)) (fun w' x => Still.build st26 rfl rfl rfl (one_cons rfl (one_cons (Row.one (Own.row ho56)) one_nil)) rfl) ?_
      refine Gq.one 8 rfl (by kernel_rfl) ?_
      refine Sq.storeAgg agg26 .plain rfl rfl (one_cons rfl (one_cons rfl (one_cons (Row.one (Own.row ho56)) one_nil))) hB47 rfl rfl (fun w58 g59 hB60 => ?_)
      have hs61 := World.grownBy.size g59
      replace E := E.grown g59 (fun k hk => by injection hk with hk; subst hk; omega)
      replace hB4 := hB4.grown g59 (by intro h; injection h with h; omega)
      replace hB11 := hB11.grown g59 (by intro h; injection h with h; omega)
      replace ho56 := ho56.stored g59 hB47 (by decide)
      replace hB47 := hB60
      refine Sq.nil ?_
      refine Eq.goes (fun h => absurd h (by decide)) ?_
      refine Gq.done (by kernel_rfl) ?_
      refine Eq.left _ ⟨b44, v53, rfl, hB47, by omega, Own.mono ho56 (by omega), E, hB4, hB11⟩ (.cons rfl (.cons rfl (.cons rfl (.nil))))
    refine Sq.alloc zero26 .plain rfl (fun b62 w63 e64 hB65 hlo66 => ?_)
    have hd67 := Nat.le_trans (Below.size E) hlo66
    have hd68 := Nat.lt_of_lt_of_le hB4.lt hlo66
    have hd69 := Nat.lt_of_lt_of_le hB11.lt hlo66
    have hs70 := Below.size e64
    replace E := E.trans e64
    replace hB4 := hB4.ext e64
    replace hB11 := hB11.ext e64
    refine Sq.nil ?_
    refine Eq.goes (fun _ => (grown_trans (World.grownBy.refl w16 _) (Ext.to_grown e64 _))) ?_
    refine Gq.one 2 rfl (by kernel_rfl) ?_
    refine Sq.lit sl24 rfl rfl .plain rfl rfl one_nil (fun b71 w72 e73 hlo74 ho75 _ => ?_)
    replace ho75 := ho75 w63.heap.size (Nat.le_refl _)
    have hs77 := Below.size e73
    replace E := E.trans e73
    replace hB4 := hB4.ext e73
    replace hB11 := hB11.ext e73
    replace hB65 := hB65.ext e73
    refine Sq.nil ?_
    refine Eq.goes (fun _ => (grown_trans (grown_trans (World.grownBy.refl w16 _) (Ext.to_grown e64 _)) (Ext.to_grown e73 _))) ?_
    refine Gq.one 5 rfl (by kernel_rfl) ?_
    refine Sq.app sl24 ho75 (by omega) (hac.ext E) (one_bools _) (by rw [List.length_map]; simp only [List.length_nil, Nat.zero_add]; first | (have := hf.acc; omega) | omega) .plain rfl rfl rfl rfl (fun v78 w79 ho81 g80 => ?_)
    have hs82 := g80.size
    replace E := E.owned ho75 g80 (by omega)
    replace hB4 := hB4.owned ho75 g80 (by decide)
    replace hB11 := hB11.owned ho75 g80 (by decide)
    replace hB65 := hB65.owned ho75 g80 (by decide)
    simp only [List.nil_append] at ho81
    refine Sq.nil ?_
    refine Eq.goes (fun _ => (grown_new (grown_trans (grown_trans (World.grownBy.refl w16 _) (Ext.to_grown e64 _)) (Ext.to_grown e73 _)) ho75 g80 (by omega))) ?_
    refine Gq.st 6 rfl (by kernel_rfl) rfl .plain rfl (fun _ _ _ h => h) (grown_new (grown_trans (grown_trans (World.grownBy.refl w16 _) (Ext.to_grown e64 _)) (Ext.to_grown e73 _)) ho75 g80 (by omega)) (fun w' x => Still.build st26 rfl rfl rfl (one_cons rfl (one_cons (Row.one (Own.row ho81)) one_nil)) rfl) ?_
    refine Gq.one 8 rfl (by kernel_rfl) ?_
    refine Sq.storeAgg agg26 .plain rfl rfl (one_cons rfl (one_cons rfl (one_cons (Row.one (Own.row ho81)) one_nil))) hB65 rfl rfl (fun w83 g84 hB85 => ?_)
    have hs86 := World.grownBy.size g84
    replace E := E.grown g84 (fun k hk => by injection hk with hk; subst hk; omega)
    replace hB4 := hB4.grown g84 (by intro h; injection h with h; omega)
    replace hB11 := hB11.grown g84 (by intro h; injection h with h; omega)
    replace ho81 := ho81.stored g84 hB65 (by decide)
    replace hB65 := hB85
    refine Sq.nil ?_
    refine Eq.goes (fun h => absurd h (by decide)) ?_
    refine Gq.done (by kernel_rfl) ?_
    refine Eq.left _ ⟨b62, v78, rfl, hB65, by omega, Own.mono ho81 (by omega), E, hB4, hB11⟩ (.cons rfl (.cons rfl (.cons rfl (.nil))))
  rintro ls wc1 ⟨b3, ac3, rfl, hB3, hb3, hoc, E, hB4, hB11⟩
  have hs87 := Below.size E
  refine Eq.next ?_
  refine Cq.seq ?_
  refine Cq.seq ?_
  refine Cq.region ?_
  refine Sq.assign .plain rfl rfl ?_
  refine Sq.nil ?_
  refine Eq.next ?_
  refine Cq.block ?_
  refine Cq.loop (fun nn w ls => ∃ (k : Int), ∃ (v : Value), ls = [(1, Value.pointer (some ⟨b1, 0, none⟩)), (2, Value.pointer (some ⟨b8, 0, none⟩)), (3, Value.pointer (some ⟨b3, 0, none⟩)), (4, Value.int .i64 k)] ∧ (0 ≤ k ∧ k ≤ a.next.length) ∧ Blk w b3 26 [Value.int .i64 a.al, v, ac3] ∧ OwnRows w w0.heap.size w.heap.size 55 3 v (a.next.take k.toNat) ∧ Ext w0 w ∧ Blk w b1 26 [Value.int .i64 a.al, nx, ac] ∧ Blk w b8 26 [Value.int .i64 0, Value.slice none 0 0, Value.slice none 0 0] ∧ Own w w0.heap.size 4 ac3 (a.acc.map Value.bool) ∧ nn = ((a.next.length : Int) - k).toNat) _ _ ⟨0, _, rfl, by omega, hB3, OwnRows.nil _ _ _ _ _, E, hB4, hB11, hoc, rfl⟩ (.cons rfl (.cons rfl (.cons rfl (.cons rfl (.nil))))) ?_
  rintro nn wl1 ls ⟨k, v, rfl, hk, hB3, hor, E, hB4, hB11, hoc, rfl⟩
  have hs88 := Below.size E
  have hn := hf.2.1
  have hro := Fit.row hf (k := k.toNat)
  refine Cq.seq ?_
  refine Cq.seq ?_
  refine Cq.region ?_
  refine Sq.move .plain rfl rfl ?_
  refine Sq.fieldAddr fld26_1 .plain rfl rfl ?_
  refine Sq.loadB one23 .plain rfl rfl hB4 rfl ?_
  refine Sq.lenRows (hnx.ext E) .plain rfl und23 rfl ?_
  refine Sq.lss .plain rfl rfl rfl ?_
  refine Sq.part (fun c89 => ?_) (fun c89 => ?_)
  · refine Sq.nil ?_
    refine Eq.next ?_
    refine Cq.thn rfl ?_
    refine Cq.skip ?_
    refine Eq.next ?_
    refine Cq.seq ?_
    refine Cq.block ?_
    refine Cq.draw 11 (Value.ownBlock v) mixed (fun w90 e91 => ?_)
    have hs92 := Below.size e91
    replace E := E.trans e91
    replace hB4 := hB4.ext e91
    replace hB11 := hB11.ext e91
    replace hoc := hoc.ext e91
    replace hB3 := hB3.ext e91
    replace hor := hor.ext e91
    have E_w90 := E
    have hB4_w90 := hB4
    have hB3_w90 := hB3
    have hor_w90 := hor
    obtain ⟨_, hor_w90q, _, _⟩ := OwnRows.open hor_w90 (by decide)
    refine Gq.st 0 rfl (by kernel_rfl) rfl .plain rfl (fun _ _ _ h => h) (World.grownBy.refl w90 _) (fun w' x => Still.fieldAddr fld26_1 rfl) ?_
    refine Gq.st 1 rfl (by kernel_rfl) rfl .plain rfl (fun _ _ _ h => h) (World.grownBy.refl w90 _) (fun w' x => Still.loadB one23 rfl (hB3_w90.owned hor_w90q x (by decide)) rfl) ?_
    refine Gq.st 3 rfl (by kernel_rfl) rfl .plain rfl (fun _ _ _ h => h) (World.grownBy.refl w90 _) (fun w' x => Still.fieldAddr fld26_1 rfl) ?_
    refine Gq.st 4 rfl (by kernel_rfl) rfl .plain rfl (fun _ _ _ h => h) (World.grownBy.refl w90 _) (fun w' x => Still.loadB one23 rfl (hB4_w90.owned hor_w90q x (by decide)) rfl) ?_
    refine Gq.st 5 rfl (by kernel_rfl) rfl .plain rfl (fun _ _ _ h => h) (World.grownBy.refl w90 _) (fun w' x => Still.move rfl) ?_
    obtain ⟨p93, r95, hp94_w90, hr96⟩ := Rows.at hnx (i := k) (by omega) (by omega)
    refine Gq.st 6 rfl (by kernel_rfl) rfl .plain rfl (fun _ _ _ h => h) (World.grownBy.refl w90 _) (fun w' x => Still.at' sl23 hp94_w90 rfl rfl) ?_
    refine Gq.st 7 rfl (by kernel_rfl) rfl .plain rfl (fun _ _ _ h => h) (World.grownBy.refl w90 _) (fun w' x => Still.loadA one55 rfl (hp94_w90.ext (E_w90.owned hor_w90q x (by omega))).1) ?_
    refine Gq.one 2 rfl (by kernel_rfl) ?_
    refine Sq.lit sl55 rfl rfl .plain rfl rfl one_nil (fun b97 w98 e99 hlo100 ho101 _ => ?_)
    replace ho101 := ho101 w90.heap.size (Nat.le_refl _)
    have hs103 := Below.size e99
    replace E := E.trans e99
    replace hB4 := hB4.ext e99
    replace hB11 := hB11.ext e99
    replace hoc := hoc.ext e99
    replace hB3 := hB3.ext e99
    replace hor := hor.ext e99
    refine Sq.nil ?_
    refine Eq.goes (fun _ => (grown_trans (World.grownBy.refl w90 _) (Ext.to_grown e99 _))) ?_
    refine Gq.one 8 rfl (by kernel_rfl) ?_
    refine Sq.app sl55 ho101 (by omega) (hr96.ext E) (one_ints _) (by rw [List.length_map]; simp only [List.length_nil, Nat.zero_add]; first | (have := hf.acc; omega) | omega) .plain rfl rfl rfl rfl (fun v104 w105 ho107 g106 => ?_)
    have hs108 := g106.size
    replace E := E.owned ho101 g106 (by omega)
    replace hB4 := hB4.owned ho101 g106 (by decide)
    replace hB11 := hB11.owned ho101 g106 (by decide)
    replace hoc := hoc.owned ho101 g106 (by decide)
    replace hB3 := hB3.owned ho101 g106 (by decide)
    replace hor := hor.apart ho101 g106 (by omega) (by decide)
    simp only [List.nil_append] at ho107
    refine Sq.nil ?_
    refine Eq.goes (fun _ => (grown_new (grown_trans (World.grownBy.refl w90 _) (Ext.to_grown e99 _)) ho101 g106 (by omega))) ?_
    refine Gq.one 9 rfl (by kernel_rfl) ?_
    refine Sq.lit sl23 rfl rfl .plain rfl rfl (one_cons (Row.one (Own.row ho107)) one_nil) (fun b109 w110 e111 hlo112 ho113 _ => ?_)
    replace ho113 := ho113 w105.heap.size (Nat.le_refl _)
    have hs115 := Below.size e111
    replace E := E.trans e111
    replace hB4 := hB4.ext e111
    replace hB11 := hB11.ext e111
    replace hoc := hoc.ext e111
    replace hB3 := hB3.ext e111
    replace hor := hor.ext e111
    replace ho107 := ho107.ext e111
    refine Sq.nil ?_
    refine Eq.goes (fun _ => (grown_trans (grown_new (grown_trans (World.grownBy.refl w90 _) (Ext.to_grown e99 _)) ho101 g106 (by omega)) (Ext.to_grown e111 _))) ?_
    refine Gq.one 10 rfl (by kernel_rfl) ?_
    obtain ⟨rs120, q121, q122, q123⟩ := OwnRows.open hor (by decide)
    have q123x := Ext.refl w110
    refine Sq.app sl23 q121 (by omega) (Own.row ho113) (one_cons (Row.one (Own.row ho107)) one_nil) (by rw [q122]; simp; omega) .plain rfl rfl rfl rfl (fun v116 w117 ho119 g118 => ?_)
    have hs124 := g118.size
    have ho119r := q123 _ (a.next.getD k.toNat []) _ _ _ (Ext.refl _) (Own.mono ho107 (by omega)) (by omega) ho119 g118
    replace E := E.owned q121 g118 (by omega)
    replace hB4 := hB4.owned q121 g118 (by decide)
    replace hB11 := hB11.owned q121 g118 (by decide)
    replace hoc := hoc.owned q121 g118 (by decide)
    replace hB3 := hB3.owned q121 g118 (by decide)
    refine Sq.nil ?_
    refine Eq.goes (fun _ => (grown_trans (grown_trans (grown_new (grown_trans (World.grownBy.refl w90 _) (Ext.to_grown e99 _)) ho101 g106 (by omega)) (Ext.to_grown e111 _)) g118)) ?_
    refine Gq.one 11 rfl (by kernel_rfl) ?_
    refine Sq.fieldAddr fld26_1 .plain rfl rfl ?_
    refine Sq.nil ?_
    refine Eq.goes (fun h => absurd h (by decide)) ?_
    refine Gq.one 12 rfl (by kernel_rfl) ?_
    refine Sq.store one23 .plain rfl rfl (Rows.one (OwnRows.rows ho119r)) hB3 (by simp) (fun w125 g126 hB127 => ?_)
    have hs128 := World.grownBy.size g126
    replace E := E.grown g126 (fun k hk => by injection hk with hk; subst hk; omega)
    replace hB4 := hB4.grown g126 (by intro h; injection h with h; omega)
    replace hB11 := hB11.grown g126 (by intro h; injection h with h; omega)
    replace hoc := hoc.stored g126 hB3 (by decide)
    replace ho119r := ho119r.stored g126 hB3 (by decide) (by decide)
    replace hB3 := hB127
    refine Sq.nil ?_
    refine Eq.goes (fun h => absurd h (by decide)) ?_
    refine Gq.done (by kernel_rfl) ?_
    refine Eq.end ?_
    refine Eq.next ?_
    refine Cq.region ?_
    refine Sq.move .plain rfl rfl ?_
    refine Sq.add .plain rfl rfl rfl (by omega) ?_
    refine Sq.assign .plain rfl rfl ?_
    refine Sq.nil ?_
    have e1 := toNat_succ hk.1
    refine Eq.round _ _ ⟨k + 1, _, rfl, by omega, hB3, by rw [e1, take_snoc [] (by omega)]; exact OwnRows.now ho119r, E, hB4, hB11, hoc, rfl⟩ (by omega) (.cons rfl (.cons rfl (.cons rfl (.cons rfl (.nil)))))
  refine Sq.nil ?_
  refine Eq.next ?_
  refine Cq.els rfl ?_
  refine Cq.exit ?_
  refine Eq.past ?_
  refine Eq.past ?_
  refine Eq.hit ?_
  refine Eq.next ?_
  refine Cq.seq ?_
  refine Cq.region ?_
  refine Sq.loadAgg agg26 .plain rfl rfl hB3 rfl ?_
  refine Sq.storeAgg agg26 .plain rfl rfl (one_cons rfl (one_cons (Rows.one (OwnRows.rows hor)) (one_cons (Row.one (Own.row hoc)) one_nil))) hB11 rfl rfl (fun w129 g130 hB131 => ?_)
  have hs132 := World.grownBy.size g130
  replace E := E.grown g130 (fun k hk => by injection hk with hk; subst hk; omega)
  replace hoc := hoc.stored g130 hB11 (by decide)
  replace hor := hor.stored g130 hB11 (by decide) (by decide)
  replace hB11 := hB131
  refine Sq.nil ?_
  refine Eq.next ?_
  refine Cq.ret ?_
  refine Eq.retCell rfl rfl agg26 hB11 rfl ?_
  have e : a.next.take k.toNat = a.next := List.take_of_length_le (by omega)
  rw [e] at hor
  exact ⟨⟨v, ac3, rfl, OwnRows.now hor, hoc⟩, E⟩
end Go.Proofs.Ytoboklelbbgcnaa
set_option linter.unusedSimpArgs false
set_option linter.unusedVariables false
namespace Go.Proofs.Ytoboklelbbgcnaa
open Go.RowKit
set_option maxRecDepth 100000 in
theorem pick_c (w0 : World) (rb : Nat) (bv : Value) (p : Int) (bs : List UInt8) (e0 : TypeId) (hR : Blk w0 rb 79 [bv, .int .i64 p]) (hb : Src w0 e0 bv bs rb) (hbl : bs.length ≤ 2000) (hp : 0 ≤ p ∧ p ≤ 1000000000) (n : Int) (hn : n ≤ 1000000000) : Ret Try.prog 48 #[Value.pointer (some ⟨rb, 0, none⟩), Value.int .i64 n] w0 (fun v w => (∃ p', (p ≤ p' ∧ p' ≤ p + 1) ∧ Blk w rb 79 [bv, .int .i64 p'] ∧ w0.grownBy w (some rb)) ∧ ∃ k, v = .int .i64 k ∧ 0 ≤ k ∧ (1 ≤ n → k < n) ∧ (n < 1 → k = 0)) := by
  have G := World.grownBy.refl w0 (some rb)
  have hlt := hR.lt
  refine Ret.of (args := [Value.pointer (some ⟨rb, 0, none⟩), Value.int .i64 n]) Try.func48 rfl rfl rfl ?_
  rintro _ rfl
  show Cq _ _ _ _ [(0, Value.pointer (some ⟨rb, 0, none⟩)), (1, Value.int .i64 n)] _
  refine Cq.seq ?_
  refine Cq.region ?_
  refine Sq.assign .plain rfl rfl ?_
  refine Sq.nil ?_
  refine Eq.next ?_
  refine Cq.seq ?_
  refine Cq.region ?_
  refine Sq.move .plain rfl rfl ?_
  refine Sq.move .plain rfl rfl ?_
  refine Sq.nilCheck .plain rfl rfl ?_
  refine Sq.fieldAddr fld79_1 .plain rfl rfl ?_
  refine Sq.loadB one3 .plain rfl rfl hR rfl ?_
  refine Sq.add .plain rfl rfl rfl (by omega) ?_
  refine Sq.nilCheck .plain rfl rfl ?_
  refine Sq.fieldAddr fld79_1 .plain rfl rfl ?_
  refine Sq.store one3 .plain rfl rfl rfl hR (by simp) (fun w1 g2 hB3 => ?_)
  have hs4 := World.grownBy.size g2
  replace G := grown_trans G g2
  replace hR := hB3
  refine Sq.nil ?_
  refine Eq.next ?_
  refine Cq.seq ?_
  refine Cq.seq ?_
  refine Cq.region ?_
  refine Sq.move .plain rfl rfl ?_
  refine Sq.lss .plain rfl rfl rfl ?_
  refine Sq.part (fun c5 => ?_) (fun c5 => ?_)
  · refine Sq.move .plain rfl rfl ?_
    refine Sq.off rfl rfl rfl rfl rfl rfl ?_
    refine Sq.off rfl rfl rfl rfl rfl rfl ?_
    refine Sq.off rfl rfl rfl rfl rfl rfl ?_
    refine Sq.off rfl rfl rfl rfl rfl rfl ?_
    refine Sq.off rfl rfl rfl rfl rfl rfl ?_
    refine Sq.off rfl rfl rfl rfl rfl rfl ?_
    refine Sq.pickT .plain rfl rfl rfl ?_
    refine Sq.nil ?_
    refine Eq.next ?_
    refine Cq.thn rfl ?_
    refine Cq.seq ?_
    refine Cq.region ?_
    refine Sq.assign .plain rfl rfl ?_
    refine Sq.nil ?_
    refine Eq.next ?_
    refine Cq.ret ?_
    refine Eq.pastRet ?_
    refine Eq.ret1 rfl rfl ?_
    exact ⟨⟨_, by omega, hR, G⟩, _, rfl, by first | omega | exact rem_ok _ (by omega)⟩
  refine Sq.move .plain rfl rfl ?_
  refine Sq.move (.met rfl rfl rfl) rfl rfl ?_
  refine Sq.nilCheck (.met rfl rfl rfl) rfl rfl ?_
  refine Sq.fieldAddr fld79_0 (.met rfl rfl rfl) rfl rfl ?_
  refine Sq.loadB one22 (.met rfl rfl rfl) rfl rfl hR rfl ?_
  refine Sq.lenBytes (hb.ext G) (.met rfl rfl rfl) rfl und22 rfl ?_
  refine Sq.eql (.met rfl rfl rfl) rfl rfl rfl ?_
  refine Sq.part (fun c6 => ?_) (fun c6 => ?_)
  · refine Sq.pickF .plain rfl rfl rfl ?_
    refine Sq.nil ?_
    refine Eq.next ?_
    refine Cq.thn rfl ?_
    refine Cq.seq ?_
    refine Cq.region ?_
    refine Sq.assign .plain rfl rfl ?_
    refine Sq.nil ?_
    refine Eq.next ?_
    refine Cq.ret ?_
    refine Eq.pastRet ?_
    refine Eq.ret1 rfl rfl ?_
    exact ⟨⟨_, by omega, hR, G⟩, _, rfl, by first | omega | exact rem_ok _ (by omega)⟩
  refine Sq.pickF .plain rfl rfl rfl ?_
  refine Sq.nil ?_
  refine Eq.next ?_
  refine Cq.els rfl ?_
  refine Cq.skip ?_
  refine Eq.next ?_
  refine Cq.seq ?_
  refine Cq.region ?_
  refine Sq.move .plain rfl rfl ?_
  refine Sq.nilCheck .plain rfl rfl ?_
  refine Sq.fieldAddr fld79_1 .plain rfl rfl ?_
  refine Sq.loadB one3 .plain rfl rfl hR rfl ?_
  refine Sq.sub .plain rfl rfl rfl (by omega) ?_
  refine Sq.assign .plain rfl rfl ?_
  refine Sq.nil ?_
  refine Eq.next ?_
  refine Cq.seq ?_
  refine Cq.seq ?_
  refine Cq.region ?_
  refine Sq.move .plain rfl rfl ?_
  refine Sq.move .plain rfl rfl ?_
  refine Sq.nilCheck .plain rfl rfl ?_
  refine Sq.fieldAddr fld79_0 .plain rfl rfl ?_
  refine Sq.loadB one22 .plain rfl rfl hR rfl ?_
  refine Sq.lenBytes (hb.ext G) .plain rfl und22 rfl ?_
  refine Sq.lss .plain rfl rfl rfl ?_
  refine Sq.part (fun c7 => ?_) (fun c7 => ?_)
  · refine Sq.nil ?_
    refine Eq.next ?_
    refine Cq.thn rfl ?_
    refine Cq.seq ?_
    refine Cq.region ?_
    refine Sq.move .plain rfl rfl ?_
    refine Sq.nilCheck .plain rfl rfl ?_
    refine Sq.fieldAddr fld79_0 .plain rfl rfl ?_
    refine Sq.loadB one22 .plain rfl rfl hR rfl ?_
    refine Sq.move .plain rfl rfl ?_
    refine Sq.idxBytes sl22 one5 (hb.ext G) .plain rfl rfl rfl .plain rfl rfl (by omega) (by omega) ?_
    refine Sq.conv conv5_3 .plain rfl rfl (u8_ok _) ?_
    refine Sq.move .plain rfl rfl ?_
    refine Sq.rem .plain rfl rfl rfl (by omega) ?_
    refine Sq.assign .plain rfl rfl ?_
    refine Sq.nil ?_
    refine Eq.next ?_
    refine Cq.ret ?_
    refine Eq.pastRet ?_
    refine Eq.ret1 rfl rfl ?_
    exact ⟨⟨_, by omega, hR, G⟩, _, rfl, by first | omega | exact rem_ok _ (by omega)⟩
  refine Sq.nil ?_
  refine Eq.next ?_
  refine Cq.els rfl ?_
  refine Cq.skip ?_
  refine Eq.next ?_
  refine Cq.seq ?_
  refine Cq.draw 45 none mixed (fun w8 e9 => ?_)
  have hs10 := Below.size e9
  replace hR := hR.ext e9
  replace G := grown_trans G (Ext.to_grown e9 _)
  have hR_w8 := hR
  have G_w8 := G
  refine Gq.st 0 rfl (by kernel_rfl) rfl .plain rfl (fun _ _ _ h => h) (World.grownBy.refl w8 _) (fun w' x => Still.move rfl) ?_
  refine Gq.st 1 rfl (by kernel_rfl) rfl .plain rfl (fun _ _ _ h => h) (World.grownBy.refl w8 _) (fun w' x => Still.nilCheck rfl) ?_
  refine Gq.st 2 rfl (by kernel_rfl) rfl .plain rfl (fun _ _ _ h => h) (World.grownBy.refl w8 _) (fun w' x => Still.fieldAddr fld79_0 rfl) ?_
  refine Gq.st 3 rfl (by kernel_rfl) rfl .plain rfl (fun _ _ _ h => h) (World.grownBy.refl w8 _) (fun w' x => Still.loadB one22 rfl (hR_w8.ext (Ext.of_grown x)) rfl) ?_
  refine Gq.st 4 rfl (by kernel_rfl) rfl .plain rfl (fun _ _ _ h => h) (World.grownBy.refl w8 _) (fun w' x => Still.move rfl) ?_
  refine Gq.st 5 rfl (by kernel_rfl) rfl .plain rfl (fun _ _ _ h => h) (World.grownBy.refl w8 _) (fun w' x => Still.move rfl) ?_
  refine Gq.st 6 rfl (by kernel_rfl) rfl .plain rfl (fun _ _ _ h => h) (World.grownBy.refl w8 _) (fun w' x => Still.nilCheck rfl) ?_
  refine Gq.st 7 rfl (by kernel_rfl) rfl .plain rfl (fun _ _ _ h => h) (World.grownBy.refl w8 _) (fun w' x => Still.fieldAddr fld79_0 rfl) ?_
  refine Gq.st 8 rfl (by kernel_rfl) rfl .plain rfl (fun _ _ _ h => h) (World.grownBy.refl w8 _) (fun w' x => Still.loadB one22 rfl (hR_w8.ext (Ext.of_grown x)) rfl) ?_
  refine Gq.st 9 rfl (by kernel_rfl) rfl .plain rfl (fun _ _ _ h => h) (World.grownBy.refl w8 _) (fun w' x => Still.lenBytes (hb.ext (grown_trans G_w8 (Ext.to_grown (Ext.of_grown x) _))) und22 rfl) ?_
  refine Gq.st 10 rfl (by kernel_rfl) rfl .plain rfl (fun _ _ _ h => h) (World.grownBy.refl w8 _) (fun w' x => Still.rem rfl rfl (by omega)) ?_
  obtain ⟨p11, hp12_w8⟩ := Bytes.at (hb.ext G_w8) (i := ((p + 1) - 1) % (List.length bs : Int)) ((rem_in (by omega) (by omega)).1) (rem_lt (by omega) (by omega))
  refine Gq.st 11 rfl (by kernel_rfl) rfl .plain rfl (fun _ _ _ h => h) (World.grownBy.refl w8 _) (fun w' x => Still.at' sl22 hp12_w8 rfl rfl) ?_
  refine Gq.st 12 rfl (by kernel_rfl) rfl .plain rfl (fun _ _ _ h => h) (World.grownBy.refl w8 _) (fun w' x => Still.loadA one5 rfl (hp12_w8.ext (Ext.of_grown x)).1) ?_
  refine Gq.st 13 rfl (by kernel_rfl) rfl .plain rfl (fun _ _ _ h => h) (World.grownBy.refl w8 _) (fun w' x => Still.conv conv5_3 rfl (u8_ok _)) ?_
  refine Gq.st 14 rfl (by kernel_rfl) rfl .plain rfl (fun _ _ _ h => h) (World.grownBy.refl w8 _) (fun w' x => Still.mul rfl rfl (u8_mul _ (by decide))) ?_
  refine Gq.st 15 rfl (by kernel_rfl) rfl .plain rfl (fun _ _ _ h => h) (World.grownBy.refl w8 _) (fun w' x => Still.move rfl) ?_
  refine Gq.st 16 rfl (by kernel_rfl) rfl .plain rfl (fun _ _ _ h => h) (World.grownBy.refl w8 _) (fun w' x => Still.nilCheck rfl) ?_
  refine Gq.st 17 rfl (by kernel_rfl) rfl .plain rfl (fun _ _ _ h => h) (World.grownBy.refl w8 _) (fun w' x => Still.fieldAddr fld79_0 rfl) ?_
  refine Gq.st 18 rfl (by kernel_rfl) rfl .plain rfl (fun _ _ _ h => h) (World.grownBy.refl w8 _) (fun w' x => Still.loadB one22 rfl (hR_w8.ext (Ext.of_grown x)) rfl) ?_
  refine Gq.st 19 rfl (by kernel_rfl) rfl .plain rfl (fun _ _ _ h => h) (World.grownBy.refl w8 _) (fun w' x => Still.move rfl) ?_
  refine Gq.st 20 rfl (by kernel_rfl) rfl .plain rfl (fun _ _ _ h => h) (World.grownBy.refl w8 _) (fun w' x => Still.mul rfl rfl (by omega)) ?_
  refine Gq.st 21 rfl (by kernel_rfl) rfl .plain rfl (fun _ _ _ h => h) (World.grownBy.refl w8 _) (fun w' x => Still.add rfl rfl (by omega)) ?_
  refine Gq.st 22 rfl (by kernel_rfl) rfl .plain rfl (fun _ _ _ h => h) (World.grownBy.refl w8 _) (fun w' x => Still.move rfl) ?_
  refine Gq.st 23 rfl (by kernel_rfl) rfl .plain rfl (fun _ _ _ h => h) (World.grownBy.refl w8 _) (fun w' x => Still.nilCheck rfl) ?_
  refine Gq.st 24 rfl (by kernel_rfl) rfl .plain rfl (fun _ _ _ h => h) (World.grownBy.refl w8 _) (fun w' x => Still.fieldAddr fld79_0 rfl) ?_
  refine Gq.st 25 rfl (by kernel_rfl) rfl .plain rfl (fun _ _ _ h => h) (World.grownBy.refl w8 _) (fun w' x => Still.loadB one22 rfl (hR_w8.ext (Ext.of_grown x)) rfl) ?_
  refine Gq.st 26 rfl (by kernel_rfl) rfl .plain rfl (fun _ _ _ h => h) (World.grownBy.refl w8 _) (fun w' x => Still.lenBytes (hb.ext (grown_trans G_w8 (Ext.to_grown (Ext.of_grown x) _))) und22 rfl) ?_
  refine Gq.st 27 rfl (by kernel_rfl) rfl .plain rfl (fun _ _ _ h => h) (World.grownBy.refl w8 _) (fun w' x => Still.rem rfl rfl (by omega)) ?_
  obtain ⟨p13, hp14_w8⟩ := Bytes.at (hb.ext G_w8) (i := ((((p + 1) - 1) * 7) + 3) % (List.length bs : Int)) ((rem_in (by omega) (by omega)).1) (rem_lt (by omega) (by omega))
  refine Gq.st 28 rfl (by kernel_rfl) rfl .plain rfl (fun _ _ _ h => h) (World.grownBy.refl w8 _) (fun w' x => Still.at' sl22 hp14_w8 rfl rfl) ?_
  refine Gq.st 29 rfl (by kernel_rfl) rfl .plain rfl (fun _ _ _ h => h) (World.grownBy.refl w8 _) (fun w' x => Still.loadA one5 rfl (hp14_w8.ext (Ext.of_grown x)).1) ?_
  refine Gq.st 30 rfl (by kernel_rfl) rfl .plain rfl (fun _ _ _ h => h) (World.grownBy.refl w8 _) (fun w' x => Still.conv conv5_3 rfl (u8_ok _)) ?_
  refine Gq.st 31 rfl (by kernel_rfl) rfl .plain rfl (fun _ _ _ h => h) (World.grownBy.refl w8 _) (fun w' x => Still.mul rfl rfl (u8_mul _ (by decide))) ?_
  refine Gq.st 32 rfl (by kernel_rfl) rfl .plain rfl (fun _ _ _ h => h) (World.grownBy.refl w8 _) (fun w' x => Still.add rfl rfl (u8_sum _ _)) ?_
  refine Gq.st 33 rfl (by kernel_rfl) rfl .plain rfl (fun _ _ _ h => h) (World.grownBy.refl w8 _) (fun w' x => Still.move rfl) ?_
  refine Gq.st 34 rfl (by kernel_rfl) rfl .plain rfl (fun _ _ _ h => h) (World.grownBy.refl w8 _) (fun w' x => Still.mul rfl rfl (by omega)) ?_
  refine Gq.st 35 rfl (by kernel_rfl) rfl .plain rfl (fun _ _ _ h => h) (World.grownBy.refl w8 _) (fun w' x => Still.add rfl rfl (u8_sum3 _ _ (by omega))) ?_
  refine Gq.st 36 rfl (by kernel_rfl) rfl .plain rfl (fun _ _ _ h => h) (World.grownBy.refl w8 _) (fun w' x => Still.move rfl) ?_
  refine Gq.st 37 rfl (by kernel_rfl) rfl .plain rfl (fun _ _ _ h => h) (World.grownBy.refl w8 _) (fun w' x => Still.move rfl) ?_
  refine Gq.st 38 rfl (by kernel_rfl) rfl .plain rfl (fun _ _ _ h => h) (World.grownBy.refl w8 _) (fun w' x => Still.nilCheck rfl) ?_
  refine Gq.st 39 rfl (by kernel_rfl) rfl .plain rfl (fun _ _ _ h => h) (World.grownBy.refl w8 _) (fun w' x => Still.fieldAddr fld79_0 rfl) ?_
  refine Gq.st 40 rfl (by kernel_rfl) rfl .plain rfl (fun _ _ _ h => h) (World.grownBy.refl w8 _) (fun w' x => Still.loadB one22 rfl (hR_w8.ext (Ext.of_grown x)) rfl) ?_
  refine Gq.st 41 rfl (by kernel_rfl) rfl .plain rfl (fun _ _ _ h => h) (World.grownBy.refl w8 _) (fun w' x => Still.lenBytes (hb.ext (grown_trans G_w8 (Ext.to_grown (Ext.of_grown x) _))) und22 rfl) ?_
  refine Gq.st 42 rfl (by kernel_rfl) rfl .plain rfl (fun _ _ _ h => h) (World.grownBy.refl w8 _) (fun w' x => Still.quo rfl rfl (by omega)) ?_
  refine Gq.st 43 rfl (by kernel_rfl) rfl .plain rfl (fun _ _ _ h => h) (World.grownBy.refl w8 _) (fun w' x => Still.mul rfl rfl (div_mul (by omega))) ?_
  refine Gq.st 44 rfl (by kernel_rfl) rfl .plain rfl (fun _ _ _ h => h) (World.grownBy.refl w8 _) (fun w' x => Still.add rfl rfl (u8_sum4 _ _ _ (by omega))) ?_
  refine Gq.one 45 rfl (by kernel_rfl) ?_
  refine Sq.assign .plain rfl rfl ?_
  refine Sq.nil ?_
  refine Eq.goes (fun h => absurd h (by decide)) ?_
  refine Gq.done (by kernel_rfl) ?_
  refine Eq.next ?_
  refine Cq.seq ?_
  refine Cq.region ?_
  refine Sq.move .plain rfl rfl ?_
  refine Sq.move .plain rfl rfl ?_
  refine Sq.quo .plain rfl rfl rfl (u8_quo _ _ _ (by omega)) ?_
  refine Sq.xor .plain rfl rfl rfl (u8_xor _ _ _ (by omega)) ?_
  refine Sq.assign .plain rfl rfl ?_
  refine Sq.nil ?_
  refine Eq.next ?_
  refine Cq.seq ?_
  refine Cq.region ?_
  refine Sq.move .plain rfl rfl ?_
  refine Sq.move .plain rfl rfl ?_
  refine Sq.rem .plain rfl rfl rfl (⟨Int.natCast_nonneg _, by omega⟩) ?_
  refine Sq.assign .plain rfl rfl ?_
  refine Sq.nil ?_
  refine Eq.next ?_
  refine Cq.ret ?_
  refine Eq.ret1 rfl rfl ?_
  exact ⟨⟨_, by omega, hR, G⟩, _, rfl, by first | omega | exact rem_ok _ (by omega)⟩
set_option maxRecDepth 100000 in
theorem num_c (w0 : World) (rb : Nat) (bv : Value) (p : Int) (bs : List UInt8) (e0 : TypeId) (hR : Blk w0 rb 79 [bv, .int .i64 p]) (hb : Src w0 e0 bv bs rb) (hbl : bs.length ≤ 2000) (hp : 0 ≤ p ∧ p ≤ 900000000) (lv : Value) (xs : List Int) (hx : Ints w0 3 lv xs) (hl : 1 ≤ xs.length ∧ xs.length ≤ 1000) : Ret Try.prog 50 #[Value.pointer (some ⟨rb, 0, none⟩), lv] w0 (fun v w => (∃ p', (p ≤ p' ∧ p' ≤ p + 1) ∧ Blk w rb 79 [bv, .int .i64 p'] ∧ w0.grownBy w (some rb)) ∧ ∃ k, v = .int .i64 k ∧ k ∈ xs) := by
  have G := World.grownBy.refl w0 (some rb)
  have hlt := hR.lt
  refine Ret.of (args := [Value.pointer (some ⟨rb, 0, none⟩), lv]) Try.func50 rfl rfl rfl ?_
  rintro _ rfl
  show Cq _ _ _ _ [(0, Value.pointer (some ⟨rb, 0, none⟩)), (1, lv)] _
  refine Cq.seq ?_
  refine Cq.region ?_
  refine Sq.assign .plain rfl rfl ?_
  refine Sq.nil ?_
  refine Eq.next ?_
  refine Cq.seq ?_
  refine Cq.region ?_
  refine Sq.move .plain rfl rfl ?_
  refine Sq.move .plain rfl rfl ?_
  refine Sq.move .plain rfl rfl ?_
  refine Sq.lenInts hx .plain rfl und55 rfl ?_
  refine Sq.call fn48 .plain rfl rfl (pick_c _ _ _ _ _ _ hR (hb.go G) hbl (by omega) (List.length xs : Int) (by omega)) ?_
  rintro _ w2 ⟨⟨p3, hp6, hB5, g4⟩, ⟨k7, rfl, hk8⟩⟩
  have hs9 := World.grownBy.size g4
  have hs10 := World.grownBy.size G
  have hs11 := World.grownBy.size g4
  replace G := grown_trans G g4
  replace hx := hx.stored g4 hR (by decide)
  replace hR := hB5
  refine Sq.idxInts sl55 one3 hx .plain rfl rfl rfl .plain rfl rfl (by omega) (by omega) ?_
  refine Sq.assign .plain rfl rfl ?_
  refine Sq.nil ?_
  refine Eq.next ?_
  refine Cq.ret ?_
  refine Eq.ret1 rfl rfl ?_
  exact ⟨⟨_, by omega, hR, G⟩, _, rfl, getD_mem (by omega)⟩
set_option maxRecDepth 100000 in
theorem of_c (w0 : World) (rb : Nat) (bv : Value) (p : Int) (bs : List UInt8) (e0 : TypeId) (hR : Blk w0 rb 79 [bv, .int .i64 p]) (hb : Src w0 e0 bv bs rb) (hbl : bs.length ≤ 2000) (hp : 0 ≤ p ∧ p ≤ 900000000) (lv : Value) (xs : List ByteArray) (hx : Strs w0 9 lv xs) (hl : 1 ≤ xs.length ∧ xs.length ≤ 1000) : Ret Try.prog 95 #[Value.pointer (some ⟨rb, 0, none⟩), lv] w0 (fun v w => (∃ p', (p ≤ p' ∧ p' ≤ p + 1) ∧ Blk w rb 79 [bv, .int .i64 p'] ∧ w0.grownBy w (some rb)) ∧ ∃ k, v = .string k ∧ k ∈ xs) := by
  have G := World.grownBy.refl w0 (some rb)
  have hlt := hR.lt
  refine Ret.of (args := [Value.pointer (some ⟨rb, 0, none⟩), lv]) Try.func95 rfl rfl rfl ?_
  rintro _ rfl
  show Cq _ _ _ _ [(0, Value.pointer (some ⟨rb, 0, none⟩)), (1, lv)] _
  refine Cq.seq ?_
  refine Cq.region ?_
  refine Sq.assign .plain rfl rfl ?_
  refine Sq.nil ?_
  refine Eq.next ?_
  refine Cq.seq ?_
  refine Cq.region ?_
  refine Sq.move .plain rfl rfl ?_
  refine Sq.move .plain rfl rfl ?_
  refine Sq.move .plain rfl rfl ?_
  refine Sq.lenStrs hx .plain rfl und98 rfl ?_
  refine Sq.call fn48 .plain rfl rfl (pick_c _ _ _ _ _ _ hR (hb.go G) hbl (by omega) (List.length xs : Int) (by omega)) ?_
  rintro _ w2 ⟨⟨p3, hp6, hB5, g4⟩, ⟨k7, rfl, hk8⟩⟩
  have hs9 := World.grownBy.size g4
  have hs10 := World.grownBy.size G
  have hs11 := World.grownBy.size g4
  replace G := grown_trans G g4
  replace hx := hx.stored g4 hR (by decide)
  replace hR := hB5
  refine Sq.idxStrs sl98 one9 hx .plain rfl rfl rfl .plain rfl rfl (by omega) (by omega) ?_
  refine Sq.assign .plain rfl rfl ?_
  refine Sq.nil ?_
  refine Eq.next ?_
  refine Cq.ret ?_
  refine Eq.ret1 rfl rfl ?_
  exact ⟨⟨_, by omega, hR, G⟩, _, rfl, getD_mem (by omega)⟩
end Go.Proofs.Ytoboklelbbgcnaa
set_option linter.unusedSimpArgs false
set_option linter.unusedVariables false
namespace Go.Proofs.Ytoboklelbbgcnaa
open Go.RowKit
set_option maxRecDepth 100000 in
theorem l3Random_c (w0 : World) (rb : Nat) (bv : Value) (p : Int) (bs : List UInt8) (e0 : TypeId) (hR : Blk w0 rb 79 [bv, .int .i64 p]) (hb : Src w0 e0 bv bs rb) (hbl : bs.length ≤ 2000) (hp : 0 ≤ p ∧ p ≤ 800000000) (al n : Int) (hal : 0 ≤ al ∧ al ≤ 63) (hn : 1 ≤ n ∧ n ≤ 12) : Ret Try.prog 105 #[Value.pointer (some ⟨rb, 0, none⟩), Value.int .i64 al, Value.int .i64 n] w0 (fun v w => (∃ p', (p ≤ p' ∧ p' ≤ p + 100) ∧ Blk w rb 79 [bv, .int .i64 p'] ∧ w0.grownBy w (some rb)) ∧ ∃ a, OwnA w w0.heap.size v a ∧ validA a = true ∧ a.al = al ∧ (a.next.length : Int) = n) := by
  have G := World.grownBy.refl w0 (some rb)
  have hlt := hR.lt
  refine Ret.of (args := [Value.pointer (some ⟨rb, 0, none⟩), Value.int .i64 al, Value.int .i64 n]) Try.func105 rfl rfl rfl ?_
  rintro _ rfl
  show Cq _ _ _ _ [(0, Value.pointer (some ⟨rb, 0, none⟩)), (1, Value.int .i64 al), (2, Value.int .i64 n)] _
  refine Cq.seq ?_
  refine Cq.region ?_
  refine Sq.alloc zero26 .plain rfl (fun b1 w2 e3 hB4 hlo5 => ?_)
  have hd6 := Nat.lt_of_lt_of_le hR.lt hlo5
  have hd7 := Nat.le_trans (World.grownBy.size G) hlo5
  have hs8 := Below.size e3
  replace hR := hR.ext e3
  replace G := grown_trans G (Ext.to_grown e3 _)
  refine Sq.nil ?_
  refine Eq.next ?_
  refine Cq.seq ?_
  refine Cq.region ?_
  refine Sq.move .plain rfl rfl ?_
  refine Sq.build st26 rfl rfl .plain rfl rfl (one_cons rfl one_nil) rfl ?_
  refine Sq.alloc zero26 .plain rfl (fun b9 w10 e11 hB12 hlo13 => ?_)
  have hd14 := Nat.lt_of_lt_of_le hR.lt hlo13
  have hd15 := Nat.le_trans (World.grownBy.size G) hlo13
  have hd16 := Nat.lt_of_lt_of_le hB4.lt hlo13
  have hs17 := Below.size e11
  replace hR := hR.ext e11
  replace G := grown_trans G (Ext.to_grown e11 _)
  replace hB4 := hB4.ext e11
  refine Sq.storeAgg agg26 .plain rfl rfl (one_cons rfl (one_cons rfl (one_cons rfl one_nil))) hB12 rfl rfl (fun w18 g19 hB20 => ?_)
  have hs21 := World.grownBy.size g19
  replace hR := hR.grown g19 (by intro h; injection h with h; omega)
  replace G := grown_far G g19 (fun k hk => by injection hk with hk; subst hk; omega)
  replace hB4 := hB4.grown g19 (by intro h; injection h with h; omega)
  replace hB12 := hB20
  refine Sq.nil ?_
  refine Eq.next ?_
  refine Cq.seq ?_
  refine Cq.region ?_
  refine Sq.move .plain rfl rfl ?_
  have hd26 := hR.lt
  have hd27 := hB4.lt
  have hd28 := hB12.lt
  refine Sq.call fn81 .plain rfl rfl (l1Letters_c al (by omega) _) ?_
  rintro v22 w23 ⟨hl25, e24⟩
  have hs29 := World.grownBy.size G
  have hs30 := Below.size e24
  replace hR := hR.ext e24
  replace G := grown_trans G (Ext.to_grown e24 _)
  replace hB4 := hB4.ext e24
  replace hB12 := hB12.ext e24
  refine Sq.lenInts (Own.row hl25) .plain rfl und55 rfl ?_
  refine Sq.assign .plain rfl rfl ?_
  refine Sq.nil ?_
  refine Eq.next ?_
  refine Cq.seq ?_
  refine Cq.seq ?_
  refine Cq.region ?_
  refine Sq.assign .plain rfl rfl ?_
  refine Sq.nil ?_
  refine Eq.next ?_
  refine Cq.block ?_
  refine Cq.loop (fun nn w ls => ∃ (i : Int), ∃ (p1 : Int), ∃ (nxv : Value), ∃ (acv : Value), ∃ (xss : List (List Int)), ∃ (ys : List Bool), ls = [(0, Value.pointer (some ⟨rb, 0, none⟩)), (2, Value.int .i64 n), (6, Value.pointer (some ⟨b1, 0, none⟩)), (7, Value.pointer (some ⟨b9, 0, none⟩)), (8, Value.int .i64 ((List.length (letters al) : Int))), (9, Value.int .i64 i)] ∧ (0 ≤ i ∧ i ≤ n) ∧ (p ≤ p1 ∧ p1 ≤ p + 7 * i) ∧ Blk w rb 79 [bv, Value.int .i64 p1] ∧ Blk w b9 26 [Value.int .i64 al, nxv, acv] ∧ OwnRows w w0.heap.size w.heap.size 55 3 nxv xss ∧ Own w w0.heap.size 4 acv (ys.map Value.bool) ∧ ((xss.length : Int) = i ∧ (ys.length : Int) = i ∧ ∀ row ∈ xss, rowOk (letters al).length n row = true) ∧ World.grownBy w0 w (some rb) ∧ Blk w b1 26 [Value.int .i64 0, Value.slice none 0 0, Value.slice none 0 0] ∧ nn = (n - i).toNat) _ _ ⟨0, p, _, _, [], [], rfl, by omega, by omega, hR, hB12, OwnRows.nil _ _ _ _ _, Own.nil _ _ _, by simp, G, hB4, rfl⟩ (.cons rfl (.cons rfl (.cons rfl (.cons rfl (.cons rfl (.cons rfl (.nil))))))) ?_
  rintro nn wl1 ls ⟨i, p1, nxv, acv, xss, ys, rfl, hi, hp1, hR, hB7, hor, hoa, hxl, G, hB4, rfl⟩
  have hs31 := World.grownBy.size G
  have hl6 := letters_len6 al
  refine Cq.seq ?_
  refine Cq.seq ?_
  refine Cq.region ?_
  refine Sq.move .plain rfl rfl ?_
  refine Sq.move .plain rfl rfl ?_
  refine Sq.lss .plain rfl rfl rfl ?_
  refine Sq.part (fun c32 => ?_) (fun c32 => ?_)
  · refine Sq.nil ?_
    refine Eq.next ?_
    refine Cq.thn rfl ?_
    refine Cq.skip ?_
    refine Eq.next ?_
    refine Cq.seq ?_
    refine Cq.block ?_
    refine Cq.seq ?_
    refine Cq.region ?_
    refine Sq.lit sl55 rfl rfl .plain rfl rfl one_nil (fun b33 w34 e35 hlo36 ho37 _ => ?_)
    replace ho37 := ho37 wl1.heap.size (Nat.le_refl _)
    have hs39 := Below.size e35
    replace G := grown_trans G (Ext.to_grown e35 _)
    replace hB4 := hB4.ext e35
    replace hR := hR.ext e35
    replace hB7 := hB7.ext e35
    replace hor := hor.ext e35
    replace hoa := hoa.ext e35
    refine Sq.assign .plain rfl rfl ?_
    refine Sq.nil ?_
    refine Eq.next ?_
    refine Cq.seq ?_
    refine Cq.seq ?_
    refine Cq.region ?_
    refine Sq.assign .plain rfl rfl ?_
    refine Sq.nil ?_
    refine Eq.next ?_
    refine Cq.block ?_
    refine Cq.loop (fun nn w ls => ∃ (j : Int), ∃ (p2 : Int), ∃ (rv : Value), ∃ (row : List Int), ls = [(0, Value.pointer (some ⟨rb, 0, none⟩)), (2, Value.int .i64 n), (6, Value.pointer (some ⟨b1, 0, none⟩)), (7, Value.pointer (some ⟨b9, 0, none⟩)), (8, Value.int .i64 ((List.length (letters al) : Int))), (9, Value.int .i64 i), (10, rv), (11, Value.int .i64 j)] ∧ (0 ≤ j ∧ j ≤ (letters al).length) ∧ wl1.heap.size ≤ w.heap.size ∧ (p1 ≤ p2 ∧ p2 ≤ p1 + j) ∧ Blk w rb 79 [bv, Value.int .i64 p2] ∧ Own w wl1.heap.size 3 rv (row.map (Value.int .i64)) ∧ ((row.length : Int) = j ∧ ∀ q ∈ row, 0 ≤ q ∧ q < n) ∧ World.grownBy w0 w (some rb) ∧ Blk w b1 26 [Value.int .i64 0, Value.slice none 0 0, Value.slice none 0 0] ∧ Blk w b9 26 [Value.int .i64 al, nxv, acv] ∧ OwnRows w w0.heap.size wl1.heap.size 55 3 nxv xss ∧ Own w w0.heap.size 4 acv (ys.map Value.bool) ∧ nn = ((letters al).length - j).toNat) _ _ ⟨0, p1, _, [], rfl, by omega, by omega, by omega, hR, ho37, by simp, G, hB4, hB7, hor, hoa, rfl⟩ (.cons rfl (.cons rfl (.cons rfl (.cons rfl (.cons rfl (.cons rfl (.cons rfl (.cons rfl (.nil))))))))) ?_
    rintro nn wl2 ls ⟨j, p2, rv, row, rfl, hj, hsz, hp2, hR, hro, hrl, G, hB4, hB7, hor, hoa, rfl⟩
    have hs40 := World.grownBy.size G
    refine Cq.seq ?_
    refine Cq.seq ?_
    refine Cq.region ?_
    refine Sq.move .plain rfl rfl ?_
    refine Sq.move .plain rfl rfl ?_
    refine Sq.lss .plain rfl rfl rfl ?_
    refine Sq.part (fun c41 => ?_) (fun c41 => ?_)
    · refine Sq.nil ?_
      refine Eq.next ?_
      refine Cq.thn rfl ?_
      refine Cq.skip ?_
      refine Eq.next ?_
      refine Cq.seq ?_
      refine Cq.block ?_
      refine Cq.region ?_
      refine Sq.move .plain rfl rfl ?_
      refine Sq.move .plain rfl rfl ?_
      refine Sq.move .plain rfl rfl ?_
      refine Sq.call fn48 .plain rfl rfl (pick_c _ _ _ _ _ _ hR (hb.go G) hbl (by omega) n (by omega)) ?_
      rintro _ w43 ⟨⟨p44, hp47, hB46, g45⟩, ⟨k48, rfl, hk49⟩⟩
      have hs50 := World.grownBy.size g45
      have hs51 := World.grownBy.size G
      have hs52 := World.grownBy.size g45
      replace G := grown_trans G g45
      replace hB4 := hB4.grown g45 (by intro h; injection h with h; omega)
      replace hB7 := hB7.grown g45 (by intro h; injection h with h; omega)
      replace hor := hor.stored g45 hR (by decide) (by decide)
      replace hoa := hoa.stored g45 hR (by decide)
      replace hro := hro.stored g45 hR (by decide)
      replace hR := hB46
      refine Sq.app1 sl55 hro (by omega) (by first | omega | (simp; omega)) .plain rfl rfl rfl rfl rfl rfl rfl (fun v53 w54 ho56 g55 _ => ?_)
      have hs57 := g55.size
      replace G := grown_new G hro g55 (by omega)
      replace hB4 := hB4.owned hro g55 (by decide)
      replace hB7 := hB7.owned hro g55 (by decide)
      replace hor := hor.apart hro g55 (by omega) (by decide)
      replace hoa := hoa.owned hro g55 (by decide)
      replace hR := hR.owned hro g55 (by decide)
      refine Sq.assign .plain rfl rfl ?_
      refine Sq.nil ?_
      refine Eq.end ?_
      refine Eq.next ?_
      refine Cq.region ?_
      refine Sq.move .plain rfl rfl ?_
      refine Sq.add .plain rfl rfl rfl (by omega) ?_
      refine Sq.assign .plain rfl rfl ?_
      refine Sq.nil ?_
      refine Eq.round _ _ ⟨j + 1, _, _, _, rfl, by omega, by omega, by omega, hR, Own.snocI ho56, ⟨by simp; omega, all_app hrl.2 (by omega)⟩, G, hB4, hB7, hor, hoa, rfl⟩ (by omega) (.cons rfl (.cons rfl (.cons rfl (.cons rfl (.cons rfl (.cons rfl (.cons rfl (.cons rfl (.nil)))))))))
    refine Sq.nil ?_
    refine Eq.next ?_
    refine Cq.els rfl ?_
    refine Cq.exit ?_
    refine Eq.past ?_
    refine Eq.past ?_
    refine Eq.hit ?_
    refine Eq.next ?_
    refine Cq.seq ?_
    refine Cq.region ?_
    refine Sq.fieldAddr fld26_1 .plain rfl rfl ?_
    refine Sq.loadB one23 .plain rfl rfl hB7 rfl ?_
    refine Sq.move .plain rfl rfl ?_
    obtain ⟨rs62, q63, q64, q65⟩ := OwnRows.open hor (by decide)
    have q65x := Ext.refl wl2
    refine Sq.app1 sl23 q63 (by omega) (by rw [q64]; first | omega | (simp; omega)) .plain rfl rfl rfl rfl rfl rfl (Row.one (Own.row hro)) (fun v58 w59 ho61 g60 _ => ?_)
    have hs66 := g60.size
    have ho61r := q65 _ row _ _ _ (Ext.refl _) (Own.mono hro (by omega)) (by omega) ho61 g60
    replace G := grown_new G q63 g60 (by omega)
    replace hB4 := hB4.owned q63 g60 (by decide)
    replace hB7 := hB7.owned q63 g60 (by decide)
    replace hoa := hoa.owned q63 g60 (by decide)
    replace hR := hR.owned q63 g60 (by decide)
    refine Sq.fieldAddr fld26_1 .plain rfl rfl ?_
    refine Sq.store one23 .plain rfl rfl (Rows.one (OwnRows.rows ho61r)) hB7 (by simp) (fun w67 g68 hB69 => ?_)
    have hs70 := World.grownBy.size g68
    replace G := grown_far G g68 (fun k hk => by injection hk with hk; subst hk; omega)
    replace hB4 := hB4.grown g68 (by intro h; injection h with h; omega)
    replace hoa := hoa.stored g68 hB7 (by decide)
    replace hR := hR.grown g68 (by intro h; injection h with h; omega)
    replace ho61r := ho61r.stored g68 hB7 (by decide) (by decide)
    replace hB7 := hB69
    refine Sq.nil ?_
    refine Eq.next ?_
    refine Cq.drawS 7 (fun w' => Blk w' b9 26 [Value.int .i64 al, v58, acv]) mixed (hB7) (fun w71 e72 hS => ?_)
    clear hS
    have hs73 := Below.size e72
    replace G := grown_trans G (Ext.to_grown e72 _)
    replace hB4 := hB4.ext e72
    replace hB7 := hB7.ext e72
    replace hoa := hoa.ext e72
    replace hR := hR.ext e72
    replace ho61r := ho61r.ext e72
    refine Gq.st 0 rfl (by kernel_rfl) rfl .plain rfl (fun _ _ _ h => h) hB7 (fun w' x => Still.fieldAddr fld26_2 rfl) ?_
    refine Gq.st 1 rfl (by kernel_rfl) rfl .plain rfl (fun _ _ _ h => h) hB7 (fun w' x => Still.loadB one24 rfl x rfl) ?_
    refine Gq.st 2 rfl (by kernel_rfl) rfl .plain rfl (fun _ _ _ h => h) hB7 (fun w' x => Still.move rfl) ?_
    refine Gq.one 3 rfl (by kernel_rfl) ?_
    refine Sq.call fn48 .plain rfl rfl (pick_c _ _ _ _ _ _ hR (hb.go G) hbl (by omega) 3 (by omega)) ?_
    rintro _ w75 ⟨⟨p76, hp79, hB78, g77⟩, ⟨k80, rfl, hk81⟩⟩
    have hs82 := World.grownBy.size g77
    have hs83 := World.grownBy.size G
    have hs84 := World.grownBy.size g77
    replace G := grown_trans G g77
    replace hB4 := hB4.grown g77 (by intro h; injection h with h; omega)
    replace hB7 := hB7.grown g77 (by intro h; injection h with h; omega)
    replace hoa := hoa.stored g77 hR (by decide)
    replace ho61r := ho61r.stored g77 hR (by decide) (by decide)
    replace hR := hB78
    refine Sq.nil ?_
    refine Eq.goes (fun _ => hB7) ?_
    refine Gq.st 4 rfl (by kernel_rfl) rfl .plain rfl (fun _ _ _ h => h) hB7 (fun w' x => Still.gtr rfl rfl) ?_
    refine Gq.one 5 rfl (by kernel_rfl) ?_
    refine Sq.lit sl24 rfl rfl .plain rfl rfl (one_cons rfl one_nil) (fun b85 w86 e87 hlo88 ho89 _ => ?_)
    replace ho89 := ho89 w75.heap.size (Nat.le_refl _)
    have hs91 := Below.size e87
    replace G := grown_trans G (Ext.to_grown e87 _)
    replace hB4 := hB4.ext e87
    replace hB7 := hB7.ext e87
    replace hoa := hoa.ext e87
    replace hR := hR.ext e87
    replace ho61r := ho61r.ext e87
    refine Sq.nil ?_
    refine Eq.goes (fun _ => hB7) ?_
    refine Gq.one 6 rfl (by kernel_rfl) ?_
    refine Sq.app sl24 hoa (by omega) (Own.row ho89) (one_cons rfl one_nil) (by first | omega | (simp; omega)) .plain rfl rfl rfl rfl (fun v92 w93 ho95 g94 => ?_)
    have hs96 := g94.size
    replace G := grown_new G hoa g94 (by omega)
    replace hB4 := hB4.owned hoa g94 (by decide)
    replace hB7 := hB7.owned hoa g94 (by decide)
    replace hR := hR.owned hoa g94 (by decide)
    replace ho61r := ho61r.owned hoa g94 (by decide) (by decide)
    refine Sq.nil ?_
    refine Eq.goes (fun _ => hB7) ?_
    refine Gq.one 7 rfl (by kernel_rfl) ?_
    refine Sq.fieldAddr fld26_2 .plain rfl rfl ?_
    refine Sq.nil ?_
    refine Eq.goes (fun h => absurd h (by decide)) ?_
    refine Gq.one 8 rfl (by kernel_rfl) ?_
    refine Sq.store one24 .plain rfl rfl (Row.one (Own.row ho95)) hB7 (by simp) (fun w97 g98 hB99 => ?_)
    have hs100 := World.grownBy.size g98
    replace G := grown_far G g98 (fun k hk => by injection hk with hk; subst hk; omega)
    replace hB4 := hB4.grown g98 (by intro h; injection h with h; omega)
    replace hR := hR.grown g98 (by intro h; injection h with h; omega)
    replace ho61r := ho61r.stored g98 hB7 (by decide) (by decide)
    replace ho95 := ho95.stored g98 hB7 (by decide)
    replace hB7 := hB99
    refine Sq.nil ?_
    refine Eq.goes (fun h => absurd h (by decide)) ?_
    refine Gq.done (by kernel_rfl) ?_
    refine Eq.end ?_
    refine Eq.next ?_
    refine Cq.region ?_
    refine Sq.move .plain rfl rfl ?_
    refine Sq.add .plain rfl rfl rfl (by omega) ?_
    refine Sq.assign .plain rfl rfl ?_
    refine Sq.nil ?_
    refine Eq.round _ _ ⟨i + 1, _, _, _, _, _, rfl, by omega, by omega, hR, hB7, OwnRows.now ho61r, Own.snocB ho95, ⟨by simp; omega, by simp; omega, rows_snoc hxl.2.2 (rowOk_mk (by omega) hrl.2)⟩, G, hB4, rfl⟩ (by omega) (.cons rfl (.cons rfl (.cons rfl (.cons rfl (.cons rfl (.cons rfl (.nil)))))))
  refine Sq.nil ?_
  refine Eq.next ?_
  refine Cq.els rfl ?_
  refine Cq.exit ?_
  refine Eq.past ?_
  refine Eq.past ?_
  refine Eq.hit ?_
  refine Eq.next ?_
  refine Cq.seq ?_
  refine Cq.region ?_
  refine Sq.loadAgg agg26 .plain rfl rfl hB7 rfl ?_
  refine Sq.storeAgg agg26 .plain rfl rfl (one_cons rfl (one_cons (Rows.one (OwnRows.rows hor)) (one_cons (Row.one (Own.row hoa)) one_nil))) hB4 rfl rfl (fun w101 g102 hB103 => ?_)
  have hs104 := World.grownBy.size g102
  replace G := grown_far G g102 (fun k hk => by injection hk with hk; subst hk; omega)
  replace hR := hR.grown g102 (by intro h; injection h with h; omega)
  replace hor := hor.stored g102 hB4 (by decide) (by decide)
  replace hoa := hoa.stored g102 hB4 (by decide)
  replace hB4 := hB103
  refine Sq.nil ?_
  refine Eq.next ?_
  refine Cq.ret ?_
  refine Eq.retCell rfl rfl agg26 hB4 rfl ?_
  exact ⟨⟨_, by omega, hR, G⟩, ⟨al, xss, ys⟩, ⟨_, _, rfl, OwnRows.now hor, hoa⟩, validA_mk hal (by show 1 ≤ xss.length ∧ xss.length ≤ 12; omega) (by show ys.length = xss.length; omega) (by intro row hr; have e : ((⟨al, xss, ys⟩ : A).next.length : Int) = n := (by show (xss.length : Int) = n; omega); rw [e]; exact hxl.2.2 row hr), rfl, by show (xss.length : Int) = n; omega⟩
set_option maxRecDepth 100000 in
theorem l3Safe_c (w0 : World) (rb : Nat) (bv : Value) (p : Int) (bs : List UInt8) (e0 : TypeId) (hR : Blk w0 rb 79 [bv, .int .i64 p]) (hb : Src w0 e0 bv bs rb) (hbl : bs.length ≤ 2000) (hp : 0 ≤ p ∧ p ≤ 700000000) (al n : Int) (hal : 0 ≤ al ∧ al ≤ 63) (hn : 1 ≤ n ∧ n ≤ 12) : Ret Try.prog 104 #[Value.pointer (some ⟨rb, 0, none⟩), Value.int .i64 al, Value.int .i64 n] w0 (fun v w => (∃ p', (p ≤ p' ∧ p' ≤ p + 100) ∧ Blk w rb 79 [bv, .int .i64 p'] ∧ w0.grownBy w (some rb)) ∧ ∃ a, OwnA w w0.heap.size v a ∧ validA a = true ∧ a.al = al ∧ (a.next.length : Int) = n) := by
  have G := World.grownBy.refl w0 (some rb)
  have hlt := hR.lt
  refine Ret.of (args := [Value.pointer (some ⟨rb, 0, none⟩), Value.int .i64 al, Value.int .i64 n]) Try.func104 rfl rfl rfl ?_
  rintro _ rfl
  show Cq _ _ _ _ [(0, Value.pointer (some ⟨rb, 0, none⟩)), (1, Value.int .i64 al), (2, Value.int .i64 n)] _
  refine Cq.seq ?_
  refine Cq.region ?_
  refine Sq.alloc zero26 .plain rfl (fun b1 w2 e3 hB4 hlo5 => ?_)
  have hd6 := Nat.lt_of_lt_of_le hR.lt hlo5
  have hd7 := Nat.le_trans (World.grownBy.size G) hlo5
  have hs8 := Below.size e3
  replace hR := hR.ext e3
  replace G := grown_trans G (Ext.to_grown e3 _)
  refine Sq.nil ?_
  refine Eq.next ?_
  refine Cq.seq ?_
  refine Cq.region ?_
  refine Sq.move .plain rfl rfl ?_
  refine Sq.move .plain rfl rfl ?_
  refine Sq.move .plain rfl rfl ?_
  refine Sq.call fn105 .plain rfl rfl (l3Random_c _ _ _ _ _ _ hR (hb.go G) hbl (by omega) al n (by omega) (by omega)) ?_
  rintro _ w10 ⟨⟨p11, hp14, hB13, g12⟩, ⟨a15, ⟨nx16, ac17, rfl, hn18, ha19⟩, hv20, hal21, hlen22⟩⟩
  have hs23 := World.grownBy.size g12
  have hs24 := World.grownBy.size G
  have hs25 := World.grownBy.size g12
  replace G := grown_trans G g12
  replace hB4 := hB4.grown g12 (by intro h; injection h with h; omega)
  replace hR := hB13
  refine Sq.alloc zero26 .plain rfl (fun b26 w27 e28 hB29 hlo30 => ?_)
  have hd31 := Nat.lt_of_lt_of_le hR.lt hlo30
  have hd32 := Nat.le_trans (World.grownBy.size G) hlo30
  have hd33 := Nat.lt_of_lt_of_le hB4.lt hlo30
  have hs34 := Below.size e28
  replace hR := hR.ext e28
  replace G := grown_trans G (Ext.to_grown e28 _)
  replace hB4 := hB4.ext e28
  replace hn18 := hn18.ext e28
  replace ha19 := ha19.ext e28
  refine Sq.storeAgg agg26 .plain rfl rfl (one_cons rfl (one_cons (Rows.one (OwnRows.rows hn18)) (one_cons (Row.one (Own.row ha19)) one_nil))) hB29 rfl rfl (fun w35 g36 hB37 => ?_)
  have hs38 := World.grownBy.size g36
  replace hR := hR.grown g36 (by intro h; injection h with h; omega)
  replace G := grown_far G g36 (fun k hk => by injection hk with hk; subst hk; omega)
  replace hB4 := hB4.grown g36 (by intro h; injection h with h; omega)
  replace hn18 := hn18.stored g36 hB29 (by decide) (by decide)
  replace ha19 := ha19.stored g36 hB29 (by decide)
  replace hB29 := hB37
  refine Sq.nil ?_
  refine Eq.next ?_
  refine Cq.seq ?_
  refine Cq.seq ?_
  refine Cq.region ?_
  refine Sq.assign .plain rfl rfl ?_
  refine Sq.nil ?_
  refine Eq.next ?_
  refine Cq.block ?_
  have hvs := validA_spec.1 hv20
  refine Cq.loop (fun nn w ls => ∃ (i : Int), ∃ (ys : List Bool), ls = [(0, Value.pointer (some ⟨rb, 0, none⟩)), (2, Value.int .i64 n), (6, Value.pointer (some ⟨b1, 0, none⟩)), (7, Value.pointer (some ⟨b26, 0, none⟩)), (8, Value.int .i64 i)] ∧ (0 ≤ i ∧ i ≤ n) ∧ ((ys.length : Int) = n) ∧ Own w w0.heap.size 4 ac17 (ys.map Value.bool) ∧ World.grownBy w0 w (some rb) ∧ Blk w rb 79 [bv, Value.int .i64 p11] ∧ Blk w b1 26 [Value.int .i64 0, Value.slice none 0 0, Value.slice none 0 0] ∧ Blk w b26 26 [Value.int .i64 a15.al, nx16, ac17] ∧ OwnRows w w2.heap.size w10.heap.size 55 3 nx16 a15.next ∧ nn = (n - i).toNat) _ _ ⟨0, _, rfl, by omega, by have := hvs.2.2.1; omega, Own.mono ha19 (by omega), G, hR, hB4, hB29, hn18, rfl⟩ (.cons rfl (.cons rfl (.cons rfl (.cons rfl (.cons rfl (.nil)))))) ?_
  rintro nn wl1 ls ⟨i, ys, rfl, hi, hyl, ha19, G, hR, hB4, hB29, hn18, rfl⟩
  have hs39 := World.grownBy.size G
  refine Cq.seq ?_
  refine Cq.seq ?_
  refine Cq.region ?_
  refine Sq.move .plain rfl rfl ?_
  refine Sq.move .plain rfl rfl ?_
  refine Sq.lss .plain rfl rfl rfl ?_
  refine Sq.part (fun c40 => ?_) (fun c40 => ?_)
  · refine Sq.nil ?_
    refine Eq.next ?_
    refine Cq.thn rfl ?_
    refine Cq.skip ?_
    refine Eq.next ?_
    refine Cq.seq ?_
    refine Cq.block ?_
    refine Cq.region ?_
    refine Sq.fieldAddr fld26_2 .plain rfl rfl ?_
    refine Sq.loadB one24 .plain rfl rfl hB29 rfl ?_
    refine Sq.move .plain rfl rfl ?_
    refine Sq.move .plain rfl rfl ?_
    refine Sq.move .plain rfl rfl ?_
    refine Sq.sub .plain rfl rfl rfl (by omega) ?_
    refine Sq.lss .plain rfl rfl rfl ?_
    obtain ⟨p41, hp42o⟩ := Own.at ha19 (i := i) (by omega) (by first | (simp only [List.length_map]; omega) | (simp; omega))
    refine Sq.atO sl24 hp42o .plain rfl rfl rfl ?_
    refine Sq.storeO one4 ha19 hp42o .plain rfl rfl rfl (fun w43 g44 ho45 => ?_)
    have hs46 := World.grownBy.size g44
    replace G := grown_new G ha19 g44 (by omega)
    replace hR := hR.owned ha19 g44 (by decide)
    replace hB4 := hB4.owned ha19 g44 (by decide)
    replace hB29 := hB29.owned ha19 g44 (by decide)
    replace hn18 := hn18.owned ha19 g44 (by decide) (by decide)
    replace ha19 := ho45
    refine Sq.nil ?_
    refine Eq.end ?_
    refine Eq.next ?_
    refine Cq.region ?_
    refine Sq.move .plain rfl rfl ?_
    refine Sq.add .plain rfl rfl rfl (by omega) ?_
    refine Sq.assign .plain rfl rfl ?_
    refine Sq.nil ?_
    refine Eq.round _ _ ⟨i + 1, _, rfl, by omega, by rw [List.length_set]; omega, Own.setB ha19, G, hR, hB4, hB29, hn18, rfl⟩ (by omega) (.cons rfl (.cons rfl (.cons rfl (.cons rfl (.cons rfl (.nil))))))
  refine Sq.nil ?_
  refine Eq.next ?_
  refine Cq.els rfl ?_
  refine Cq.exit ?_
  refine Eq.past ?_
  refine Eq.past ?_
  refine Eq.hit ?_
  refine Eq.next ?_
  refine Cq.seq ?_
  refine Cq.seq ?_
  refine Cq.region ?_
  refine Sq.assign .plain rfl rfl ?_
  refine Sq.nil ?_
  refine Eq.next ?_
  refine Cq.block ?_
  have hrows := validA_rows hv20
  refine Cq.loop (fun nn w ls => ∃ (j : Int), ∃ (xss : List (List Int)), ls = [(0, Value.pointer (some ⟨rb, 0, none⟩)), (2, Value.int .i64 n), (6, Value.pointer (some ⟨b1, 0, none⟩)), (7, Value.pointer (some ⟨b26, 0, none⟩)), (9, Value.int .i64 j)] ∧ (0 ≤ j) ∧ ((xss.length : Int) = n ∧ ∀ row ∈ xss, rowOk (letters al).length n row = true) ∧ OwnRows w w0.heap.size w.heap.size 55 3 nx16 xss ∧ World.grownBy w0 w (some rb) ∧ Blk w rb 79 [bv, Value.int .i64 p11] ∧ Blk w b1 26 [Value.int .i64 0, Value.slice none 0 0, Value.slice none 0 0] ∧ Blk w b26 26 [Value.int .i64 a15.al, nx16, ac17] ∧ Own w w0.heap.size 4 ac17 (ys.map Value.bool) ∧ nn = (((xss.getD (n - 1).toNat []).length : Int) - j).toNat) _ _ ⟨0, _, rfl, by omega, ⟨by omega, by rw [← hal21, ← hlen22]; exact hrows⟩, OwnRows.mono (OwnRows.now hn18) (by omega), G, hR, hB4, hB29, ha19, rfl⟩ (.cons rfl (.cons rfl (.cons rfl (.cons rfl (.cons rfl (.nil)))))) ?_
  rintro nn wl2 ls ⟨j, xss, rfl, hj, hxl, hn18, G, hR, hB4, hB29, ha19, rfl⟩
  have hs47 := World.grownBy.size G
  have hrk := rowOk_at hxl.2 (k := (n - 1).toNat) (by omega)
  have hl6 := letters_len6 al
  refine Cq.seq ?_
  refine Cq.seq ?_
  refine Cq.region ?_
  refine Sq.move .plain rfl rfl ?_
  refine Sq.fieldAddr fld26_1 .plain rfl rfl ?_
  refine Sq.loadB one23 .plain rfl rfl hB29 rfl ?_
  refine Sq.move .plain rfl rfl ?_
  refine Sq.sub .plain rfl rfl rfl (by omega) ?_
  refine Sq.idxRows sl23 one55 (OwnRows.rows hn18) .plain rfl rfl rfl .plain rfl rfl (by omega) (by omega) (fun r48 hr49 => ?_)
  refine Sq.lenInts hr49 .plain rfl und55 rfl ?_
  refine Sq.lss .plain rfl rfl rfl ?_
  refine Sq.part (fun c50 => ?_) (fun c50 => ?_)
  · refine Sq.nil ?_
    refine Eq.next ?_
    refine Cq.thn rfl ?_
    refine Cq.skip ?_
    refine Eq.next ?_
    refine Cq.seq ?_
    refine Cq.block ?_
    refine Cq.region ?_
    refine Sq.fieldAddr fld26_1 .plain rfl rfl ?_
    refine Sq.loadB one23 .plain rfl rfl hB29 rfl ?_
    refine Sq.move .plain rfl rfl ?_
    refine Sq.sub .plain rfl rfl rfl (by omega) ?_
    obtain ⟨p51, r53, hp52, _⟩ := Rows.at (OwnRows.rows hn18) (i := n - 1) (by omega) (by omega)
    have hr54 := (OwnRows.rowAt hn18 hp52).1
    refine Sq.val .plain rfl rfl (Still.at' sl23 hp52 rfl rfl) ?_
    refine Sq.val .plain rfl rfl (Still.loadA one55 rfl hp52.1) ?_
    refine Sq.move .plain rfl rfl ?_
    refine Sq.move .plain rfl rfl ?_
    refine Sq.sub .plain rfl rfl rfl (by omega) ?_
    obtain ⟨p55, hp56o⟩ := Own.at hr54 (i := j) (by omega) (by first | (simp only [List.length_map]; omega) | (simp; omega))
    refine Sq.atO sl55 hp56o .plain rfl rfl rfl ?_
    refine Sq.storeO one3 hr54 hp56o .plain rfl rfl rfl (fun w57 g58 ho59 => ?_)
    have hs60 := World.grownBy.size g58
    rw [← List.map_set] at ho59
    replace hn18 := (OwnRows.set hn18 (by decide) hp52 ho59 g58).1
    replace G := grown_new G hr54 g58 (by omega)
    replace hR := hR.owned hr54 g58 (by decide)
    replace hB4 := hB4.owned hr54 g58 (by decide)
    replace hB29 := hB29.owned hr54 g58 (by decide)
    replace ha19 := ha19.owned hr54 g58 (by decide)
    refine Sq.nil ?_
    refine Eq.end ?_
    refine Eq.next ?_
    refine Cq.region ?_
    refine Sq.move .plain rfl rfl ?_
    refine Sq.add .plain rfl rfl rfl (by omega) ?_
    refine Sq.assign .plain rfl rfl ?_
    refine Sq.nil ?_
    refine Eq.round _ _ ⟨j + 1, _, rfl, by omega, ⟨by rw [List.length_set]; exact hxl.1, rows_set hxl.2 (rowOk_set hrk (by omega))⟩, OwnRows.now hn18, G, hR, hB4, hB29, ha19, rfl⟩ (by rw [getD_set_self (by omega), List.length_set]; omega) (.cons rfl (.cons rfl (.cons rfl (.cons rfl (.cons rfl (.nil))))))
  refine Sq.nil ?_
  refine Eq.next ?_
  refine Cq.els rfl ?_
  refine Cq.exit ?_
  refine Eq.past ?_
  refine Eq.past ?_
  refine Eq.hit ?_
  refine Eq.next ?_
  refine Cq.seq ?_
  refine Cq.region ?_
  refine Sq.loadAgg agg26 .plain rfl rfl hB29 rfl ?_
  refine Sq.storeAgg agg26 .plain rfl rfl (one_cons rfl (one_cons (Rows.one (OwnRows.rows hn18)) (one_cons (Row.one (Own.row ha19)) one_nil))) hB4 rfl rfl (fun w61 g62 hB63 => ?_)
  have hs64 := World.grownBy.size g62
  replace G := grown_far G g62 (fun k hk => by injection hk with hk; subst hk; omega)
  replace hR := hR.grown g62 (by intro h; injection h with h; omega)
  replace ha19 := ha19.stored g62 hB4 (by decide)
  replace hn18 := hn18.stored g62 hB4 (by decide) (by decide)
  replace hB4 := hB63
  refine Sq.nil ?_
  refine Eq.next ?_
  refine Cq.ret ?_
  refine Eq.retCell rfl rfl agg26 hB4 rfl ?_
  exact ⟨⟨_, by omega, hR, G⟩, ⟨al, xss, ys⟩, ⟨_, _, by first | rfl | (simp only [hal21]), OwnRows.now (OwnRows.mono hn18 (by omega)), Own.mono ha19 (by omega)⟩, validA_mk hal (by show 1 ≤ xss.length ∧ xss.length ≤ 12; omega) (by show ys.length = xss.length; omega) (by intro row hr; have e : ((⟨al, xss, ys⟩ : A).next.length : Int) = n := (by show (xss.length : Int) = n; omega); rw [e]; exact hxl.2 row hr), rfl, by show (xss.length : Int) = n; omega⟩
set_option maxRecDepth 100000 in
theorem l3Over_c (w0 : World) (rb : Nat) (bv : Value) (p : Int) (bs : List UInt8) (e0 : TypeId) (hR : Blk w0 rb 79 [bv, .int .i64 p]) (hb : Src w0 e0 bv bs rb) (hbl : bs.length ≤ 2000) (hp : 0 ≤ p ∧ p ≤ 600000000) (al : Int) (hal : 0 ≤ al ∧ al ≤ 63) : Ret Try.prog 70 #[Value.pointer (some ⟨rb, 0, none⟩), Value.int .i64 al] w0 (fun v w => (∃ p', (p ≤ p' ∧ p' ≤ p + 200) ∧ Blk w rb 79 [bv, .int .i64 p'] ∧ w0.grownBy w (some rb)) ∧ ∃ a, OwnA w w0.heap.size v a ∧ validA a = true ∧ a.al = al) := by
  have G := World.grownBy.refl w0 (some rb)
  have hlt := hR.lt
  refine Ret.of (args := [Value.pointer (some ⟨rb, 0, none⟩), Value.int .i64 al]) Try.func70 rfl rfl rfl ?_
  rintro _ rfl
  show Cq _ _ _ _ [(0, Value.pointer (some ⟨rb, 0, none⟩)), (1, Value.int .i64 al)] _
  refine Cq.seq ?_
  refine Cq.region ?_
  refine Sq.alloc zero26 .plain rfl (fun b1 w2 e3 hB4 hlo5 => ?_)
  have hd6 := Nat.lt_of_lt_of_le hR.lt hlo5
  have hd7 := Nat.le_trans (World.grownBy.size G) hlo5
  have hs8 := Below.size e3
  replace hR := hR.ext e3
  replace G := grown_trans G (Ext.to_grown e3 _)
  refine Sq.nil ?_
  refine Eq.next ?_
  refine Cq.seq ?_
  refine Cq.seq ?_
  refine Cq.region ?_
  refine Sq.move .plain rfl rfl ?_
  refine Sq.call fn48 .plain rfl rfl (pick_c _ _ _ _ _ _ hR (hb.go G) hbl (by omega) 2 (by omega)) ?_
  rintro _ w10 ⟨⟨p11, hp14, hB13, g12⟩, ⟨k15, rfl, hk16⟩⟩
  have hs17 := World.grownBy.size g12
  have hs18 := World.grownBy.size G
  have hs19 := World.grownBy.size g12
  replace G := grown_trans G g12
  replace hB4 := hB4.grown g12 (by intro h; injection h with h; omega)
  replace hR := hB13
  refine Sq.eql .plain rfl rfl rfl ?_
  refine Sq.part (fun c20 => ?_) (fun c20 => ?_)
  · refine Sq.nil ?_
    refine Eq.next ?_
    refine Cq.thn rfl ?_
    refine Cq.seq ?_
    refine Cq.region ?_
    refine Sq.move .plain rfl rfl ?_
    refine Sq.move .plain rfl rfl ?_
    refine Sq.move .plain rfl rfl ?_
    refine Sq.lit sl55 rfl rfl .plain rfl rfl (one_cons rfl (one_cons rfl (one_cons rfl (one_cons rfl one_nil)))) (fun b21 w22 e23 hlo24 ho25 _ => ?_)
    replace ho25 := ho25 w10.heap.size (Nat.le_refl _)
    have hs27 := Below.size e23
    replace hR := hR.ext e23
    replace G := grown_trans G (Ext.to_grown e23 _)
    replace hB4 := hB4.ext e23
    refine Sq.call fn50 .plain rfl rfl (num_c _ _ _ _ _ _ hR (hb.go G) hbl (by omega) _ [3, 2, 4, 1] (Own.row ho25) (by simp)) ?_
    rintro _ w29 ⟨⟨p30, hp33, hB32, g31⟩, ⟨k34, rfl, hm35⟩⟩
    have hs36 := World.grownBy.size g31
    have hs37 := World.grownBy.size G
    have hs38 := World.grownBy.size g31
    replace G := grown_trans G g31
    replace hB4 := hB4.grown g31 (by intro h; injection h with h; omega)
    replace hR := hB32
    simp only [List.mem_cons, List.not_mem_nil, or_false] at hm35
    refine Sq.call fn104 .plain rfl rfl (l3Safe_c _ _ _ _ _ _ hR (hb.go G) hbl (by omega) al k34 (by omega) (by omega)) ?_
    rintro _ w40 ⟨⟨p41, hp44, hB43, g42⟩, ⟨a45, ⟨nx46, ac47, rfl, hn48, ha49⟩, hv50, hal51, hlen52⟩⟩
    have hs53 := World.grownBy.size g42
    have hs54 := World.grownBy.size G
    have hs55 := World.grownBy.size g42
    replace G := grown_trans G g42
    replace hB4 := hB4.grown g42 (by intro h; injection h with h; omega)
    replace hR := hB43
    refine Sq.storeAgg agg26 .plain rfl rfl (one_cons rfl (one_cons (Rows.one (OwnRows.rows hn48)) (one_cons (Row.one (Own.row ha49)) one_nil))) hB4 rfl rfl (fun w56 g57 hB58 => ?_)
    have hs59 := World.grownBy.size g57
    replace hR := hR.grown g57 (by intro h; injection h with h; omega)
    replace G := grown_far G g57 (fun k hk => by injection hk with hk; subst hk; omega)
    replace hn48 := hn48.stored g57 hB4 (by decide) (by decide)
    replace ha49 := ha49.stored g57 hB4 (by decide)
    replace hB4 := hB58
    refine Sq.nil ?_
    refine Eq.next ?_
    refine Cq.ret ?_
    refine Eq.pastRet ?_
    refine Eq.retCell rfl rfl agg26 hB4 rfl ?_
    exact ⟨⟨_, by omega, hR, G⟩, _, ⟨_, _, rfl, OwnRows.now (OwnRows.mono hn48 (by omega)), Own.mono ha49 (by omega)⟩, hv50, hal51⟩
  refine Sq.nil ?_
  refine Eq.next ?_
  refine Cq.els rfl ?_
  refine Cq.skip ?_
  refine Eq.next ?_
  refine Cq.seq ?_
  refine Cq.region ?_
  refine Sq.move .plain rfl rfl ?_
  refine Sq.move .plain rfl rfl ?_
  refine Sq.move .plain rfl rfl ?_
  refine Sq.lit sl55 rfl rfl .plain rfl rfl (one_cons rfl (one_cons rfl (one_cons rfl (one_cons rfl (one_cons rfl one_nil))))) (fun b60 w61 e62 hlo63 ho64 _ => ?_)
  replace ho64 := ho64 w10.heap.size (Nat.le_refl _)
  have hs66 := Below.size e62
  replace hR := hR.ext e62
  replace G := grown_trans G (Ext.to_grown e62 _)
  replace hB4 := hB4.ext e62
  refine Sq.call fn50 .plain rfl rfl (num_c _ _ _ _ _ _ hR (hb.go G) hbl (by omega) _ [2, 3, 1, 4, 5] (Own.row ho64) (by simp)) ?_
  rintro _ w68 ⟨⟨p69, hp72, hB71, g70⟩, ⟨k73, rfl, hm74⟩⟩
  have hs75 := World.grownBy.size g70
  have hs76 := World.grownBy.size G
  have hs77 := World.grownBy.size g70
  replace G := grown_trans G g70
  replace hB4 := hB4.grown g70 (by intro h; injection h with h; omega)
  replace hR := hB71
  simp only [List.mem_cons, List.not_mem_nil, or_false] at hm74
  refine Sq.call fn105 .plain rfl rfl (l3Random_c _ _ _ _ _ _ hR (hb.go G) hbl (by omega) al k73 (by omega) (by omega)) ?_
  rintro _ w79 ⟨⟨p80, hp83, hB82, g81⟩, ⟨a84, ⟨nx85, ac86, rfl, hn87, ha88⟩, hv89, hal90, hlen91⟩⟩
  have hs92 := World.grownBy.size g81
  have hs93 := World.grownBy.size G
  have hs94 := World.grownBy.size g81
  replace G := grown_trans G g81
  replace hB4 := hB4.grown g81 (by intro h; injection h with h; omega)
  replace hR := hB82
  refine Sq.storeAgg agg26 .plain rfl rfl (one_cons rfl (one_cons (Rows.one (OwnRows.rows hn87)) (one_cons (Row.one (Own.row ha88)) one_nil))) hB4 rfl rfl (fun w95 g96 hB97 => ?_)
  have hs98 := World.grownBy.size g96
  replace hR := hR.grown g96 (by intro h; injection h with h; omega)
  replace G := grown_far G g96 (fun k hk => by injection hk with hk; subst hk; omega)
  replace hn87 := hn87.stored g96 hB4 (by decide) (by decide)
  replace ha88 := ha88.stored g96 hB4 (by decide)
  replace hB4 := hB97
  refine Sq.nil ?_
  refine Eq.next ?_
  refine Cq.ret ?_
  refine Eq.retCell rfl rfl agg26 hB4 rfl ?_
  exact ⟨⟨_, by omega, hR, G⟩, _, ⟨_, _, rfl, OwnRows.now (OwnRows.mono hn87 (by omega)), Own.mono ha88 (by omega)⟩, hv89, hal90⟩
set_option maxRecDepth 100000 in
theorem l3Big_c (w0 : World) (rb : Nat) (bv : Value) (p : Int) (bs : List UInt8) (e0 : TypeId) (hR : Blk w0 rb 79 [bv, .int .i64 p]) (hb : Src w0 e0 bv bs rb) (hbl : bs.length ≤ 2000) (hp : 0 ≤ p ∧ p ≤ 800000000) : Ret Try.prog 72 #[Value.pointer (some ⟨rb, 0, none⟩)] w0 (fun v w => (∃ p', (p ≤ p' ∧ p' ≤ p + 100) ∧ Blk w rb 79 [bv, .int .i64 p'] ∧ w0.grownBy w (some rb)) ∧ ∃ a, OwnA w w0.heap.size v a ∧ validA a = true) := by
  have G := World.grownBy.refl w0 (some rb)
  have hlt := hR.lt
  refine Ret.of (args := [Value.pointer (some ⟨rb, 0, none⟩)]) Try.func72 rfl rfl rfl ?_
  rintro _ rfl
  show Cq _ _ _ _ [(0, Value.pointer (some ⟨rb, 0, none⟩))] _
  refine Cq.seq ?_
  refine Cq.region ?_
  refine Sq.alloc zero26 .plain rfl (fun b1 w2 e3 hB4 hlo5 => ?_)
  have hd6 := Nat.lt_of_lt_of_le hR.lt hlo5
  have hd7 := Nat.le_trans (World.grownBy.size G) hlo5
  have hs8 := Below.size e3
  replace hR := hR.ext e3
  replace G := grown_trans G (Ext.to_grown e3 _)
  refine Sq.nil ?_
  refine Eq.next ?_
  refine Cq.seq ?_
  refine Cq.region ?_
  refine Sq.build st26 rfl rfl .plain rfl rfl (one_cons rfl one_nil) rfl ?_
  refine Sq.alloc zero26 .plain rfl (fun b9 w10 e11 hB12 hlo13 => ?_)
  have hd14 := Nat.lt_of_lt_of_le hR.lt hlo13
  have hd15 := Nat.le_trans (World.grownBy.size G) hlo13
  have hd16 := Nat.lt_of_lt_of_le hB4.lt hlo13
  have hs17 := Below.size e11
  replace hR := hR.ext e11
  replace G := grown_trans G (Ext.to_grown e11 _)
  replace hB4 := hB4.ext e11
  refine Sq.storeAgg agg26 .plain rfl rfl (one_cons rfl (one_cons rfl (one_cons rfl one_nil))) hB12 rfl rfl (fun w18 g19 hB20 => ?_)
  have hs21 := World.grownBy.size g19
  replace hR := hR.grown g19 (by intro h; injection h with h; omega)
  replace G := grown_far G g19 (fun k hk => by injection hk with hk; subst hk; omega)
  replace hB4 := hB4.grown g19 (by intro h; injection h with h; omega)
  replace hB12 := hB20
  refine Sq.nil ?_
  refine Eq.next ?_
  refine Cq.seq ?_
  refine Cq.seq ?_
  refine Cq.region ?_
  refine Sq.assign .plain rfl rfl ?_
  refine Sq.nil ?_
  refine Eq.next ?_
  refine Cq.block ?_
  refine Cq.loop (fun nn w ls => ∃ (i : Int), ∃ (p1 : Int), ∃ (nxv : Value), ∃ (acv : Value), ∃ (xss : List (List Int)), ∃ (ys : List Bool), ls = [(0, Value.pointer (some ⟨rb, 0, none⟩)), (2, Value.pointer (some ⟨b1, 0, none⟩)), (3, Value.pointer (some ⟨b9, 0, none⟩)), (4, Value.int .i64 i)] ∧ (0 ≤ i ∧ i ≤ 12) ∧ (p ≤ p1 ∧ p1 ≤ p + 3 * i) ∧ Blk w rb 79 [bv, Value.int .i64 p1] ∧ Blk w b9 26 [Value.int .i64 3, nxv, acv] ∧ OwnRows w w0.heap.size w.heap.size 55 3 nxv xss ∧ Own w w0.heap.size 4 acv (ys.map Value.bool) ∧ ((xss.length : Int) = i ∧ (ys.length : Int) = i ∧ ∀ row ∈ xss, rowOk 2 12 row = true) ∧ World.grownBy w0 w (some rb) ∧ Blk w b1 26 [Value.int .i64 0, Value.slice none 0 0, Value.slice none 0 0] ∧ nn = (12 - i).toNat) _ _ ⟨0, p, _, _, [], [], rfl, by omega, by omega, hR, hB12, OwnRows.nil _ _ _ _ _, Own.nil _ _ _, by simp, G, hB4, rfl⟩ (.cons rfl (.cons rfl (.cons rfl (.cons rfl (.nil))))) ?_
  rintro nn wl1 ls ⟨i, p1, nxv, acv, xss, ys, rfl, hi, hp1, hR, hB7, hor, hoa, hxl, G, hB4, rfl⟩
  have hs22 := World.grownBy.size G
  refine Cq.seq ?_
  refine Cq.seq ?_
  refine Cq.region ?_
  refine Sq.move .plain rfl rfl ?_
  refine Sq.lss .plain rfl rfl rfl ?_
  refine Sq.part (fun c23 => ?_) (fun c23 => ?_)
  · refine Sq.nil ?_
    refine Eq.next ?_
    refine Cq.thn rfl ?_
    refine Cq.skip ?_
    refine Eq.next ?_
    refine Cq.seq ?_
    refine Cq.block ?_
    refine Cq.seq ?_
    refine Cq.drawS 12 (fun w' => Blk w' b9 26 [Value.int .i64 3, nxv, acv]) mixed (hB7) (fun w24 e25 hS => ?_)
    clear hS
    have hs26 := Below.size e25
    replace G := grown_trans G (Ext.to_grown e25 _)
    replace hB4 := hB4.ext e25
    replace hR := hR.ext e25
    replace hB7 := hB7.ext e25
    replace hor := hor.ext e25
    replace hoa := hoa.ext e25
    refine Gq.st 0 rfl (by kernel_rfl) rfl .plain rfl (fun _ _ _ h => h) hB7 (fun w' x => Still.fieldAddr fld26_1 rfl) ?_
    refine Gq.st 1 rfl (by kernel_rfl) rfl .plain rfl (fun _ _ _ h => h) hB7 (fun w' x => Still.loadB one23 rfl x rfl) ?_
    refine Gq.st 2 rfl (by kernel_rfl) rfl .plain rfl (fun _ _ _ h => h) hB7 (fun w' x => Still.move rfl) ?_
    refine Gq.st 3 rfl (by kernel_rfl) rfl .plain rfl (fun _ _ _ h => h) hB7 (fun w' x => Still.add rfl rfl (by omega)) ?_
    refine Gq.st 4 rfl (by kernel_rfl) rfl .plain rfl (fun _ _ _ h => h) hB7 (fun w' x => Still.rem rfl rfl (by omega)) ?_
    refine Gq.st 5 rfl (by kernel_rfl) rfl .plain rfl (fun _ _ _ h => h) hB7 (fun w' x => Still.move rfl) ?_
    refine Gq.st 6 rfl (by kernel_rfl) rfl .plain rfl (fun _ _ _ h => h) hB7 (fun w' x => Still.move rfl) ?_
    refine Gq.one 7 rfl (by kernel_rfl) ?_
    refine Sq.lit sl55 rfl rfl .plain rfl rfl (one_cons rfl (one_cons rfl (one_cons rfl one_nil))) (fun b27 w28 e29 hlo30 ho31 _ => ?_)
    replace ho31 := ho31 w24.heap.size (Nat.le_refl _)
    have hs33 := Below.size e29
    replace G := grown_trans G (Ext.to_grown e29 _)
    replace hB4 := hB4.ext e29
    replace hR := hR.ext e29
    replace hB7 := hB7.ext e29
    replace hor := hor.ext e29
    replace hoa := hoa.ext e29
    refine Sq.nil ?_
    refine Eq.goes (fun _ => hB7) ?_
    refine Gq.one 8 rfl (by kernel_rfl) ?_
    refine Sq.call fn50 .plain rfl rfl (num_c _ _ _ _ _ _ hR (hb.go G) hbl (by omega) _ [i, 0, 11] (Own.row ho31) (by simp)) ?_
    rintro _ w35 ⟨⟨p36, hp39, hB38, g37⟩, ⟨k40, rfl, hm41⟩⟩
    have hs42 := World.grownBy.size g37
    have hs43 := World.grownBy.size G
    have hs44 := World.grownBy.size g37
    replace G := grown_trans G g37
    replace hB4 := hB4.grown g37 (by intro h; injection h with h; omega)
    replace hB7 := hB7.grown g37 (by intro h; injection h with h; omega)
    replace hor := hor.stored g37 hR (by decide) (by decide)
    replace hoa := hoa.stored g37 hR (by decide)
    replace hR := hB38
    simp only [List.mem_cons, List.not_mem_nil, or_false] at hm41
    refine Sq.nil ?_
    refine Eq.goes (fun _ => hB7) ?_
    refine Gq.one 9 rfl (by kernel_rfl) ?_
    refine Sq.lit sl55 rfl rfl .plain rfl rfl (one_cons rfl (one_cons rfl one_nil)) (fun b45 w46 e47 hlo48 ho49 _ => ?_)
    replace ho49 := ho49 w35.heap.size (Nat.le_refl _)
    have hs51 := Below.size e47
    replace G := grown_trans G (Ext.to_grown e47 _)
    replace hB4 := hB4.ext e47
    replace hR := hR.ext e47
    replace hB7 := hB7.ext e47
    replace hor := hor.ext e47
    replace hoa := hoa.ext e47
    refine Sq.nil ?_
    refine Eq.goes (fun _ => hB7) ?_
    refine Gq.one 10 rfl (by kernel_rfl) ?_
    refine Sq.lit sl23 rfl rfl .plain rfl rfl (one_cons (Row.one (Own.row ho49)) one_nil) (fun b52 w53 e54 hlo55 ho56 _ => ?_)
    replace ho56 := ho56 w46.heap.size (Nat.le_refl _)
    have hs58 := Below.size e54
    replace G := grown_trans G (Ext.to_grown e54 _)
    replace hB4 := hB4.ext e54
    replace hR := hR.ext e54
    replace hB7 := hB7.ext e54
    replace hor := hor.ext e54
    replace hoa := hoa.ext e54
    replace ho49 := ho49.ext e54
    refine Sq.nil ?_
    refine Eq.goes (fun _ => hB7) ?_
    refine Gq.one 11 rfl (by kernel_rfl) ?_
    obtain ⟨rs63, q64, q65, q66⟩ := OwnRows.open hor (by decide)
    have q66x := Ext.refl w53
    refine Sq.app sl23 q64 (by omega) (Own.row ho56) (one_cons (Row.one (Own.row ho49)) one_nil) (by rw [q65]; first | omega | (simp; omega)) .plain rfl rfl rfl rfl (fun v59 w60 ho62 g61 => ?_)
    have hs67 := g61.size
    have ho62r := q66 _ (([(i + 1) % 12, k40] : List Int)) _ _ _ (Ext.refl _) (Own.mono ho49 (by omega)) (by omega) ho62 g61
    replace G := grown_new G q64 g61 (by omega)
    replace hB4 := hB4.owned q64 g61 (by decide)
    replace hR := hR.owned q64 g61 (by decide)
    replace hB7 := hB7.owned q64 g61 (by decide)
    replace hoa := hoa.owned q64 g61 (by decide)
    refine Sq.nil ?_
    refine Eq.goes (fun _ => hB7) ?_
    refine Gq.one 12 rfl (by kernel_rfl) ?_
    refine Sq.fieldAddr fld26_1 .plain rfl rfl ?_
    refine Sq.nil ?_
    refine Eq.goes (fun h => absurd h (by decide)) ?_
    refine Gq.one 13 rfl (by kernel_rfl) ?_
    refine Sq.store one23 .plain rfl rfl (Rows.one (OwnRows.rows ho62r)) hB7 (by simp) (fun w68 g69 hB70 => ?_)
    have hs71 := World.grownBy.size g69
    replace G := grown_far G g69 (fun k hk => by injection hk with hk; subst hk; omega)
    replace hB4 := hB4.grown g69 (by intro h; injection h with h; omega)
    replace hR := hR.grown g69 (by intro h; injection h with h; omega)
    replace hoa := hoa.stored g69 hB7 (by decide)
    replace ho62r := ho62r.stored g69 hB7 (by decide) (by decide)
    replace hB7 := hB70
    refine Sq.nil ?_
    refine Eq.goes (fun h => absurd h (by decide)) ?_
    refine Gq.done (by kernel_rfl) ?_
    refine Eq.next ?_
    refine Cq.drawS 11 (fun w' => Blk w' b9 26 [Value.int .i64 3, v59, acv]) mixed (hB7) (fun w72 e73 hS => ?_)
    clear hS
    have hs74 := Below.size e73
    replace G := grown_trans G (Ext.to_grown e73 _)
    replace hB4 := hB4.ext e73
    replace hR := hR.ext e73
    replace hB7 := hB7.ext e73
    replace hoa := hoa.ext e73
    replace ho62r := ho62r.ext e73
    refine Gq.st 0 rfl (by kernel_rfl) rfl .plain rfl (fun _ _ _ h => h) hB7 (fun w' x => Still.fieldAddr fld26_2 rfl) ?_
    refine Gq.st 1 rfl (by kernel_rfl) rfl .plain rfl (fun _ _ _ h => h) hB7 (fun w' x => Still.loadB one24 rfl x rfl) ?_
    refine Gq.st 2 rfl (by kernel_rfl) rfl .plain rfl (fun _ _ _ h => h) hB7 (fun w' x => Still.move rfl) ?_
    refine Gq.st 3 rfl (by kernel_rfl) rfl .plain rfl (fun _ _ _ h => h) hB7 (fun w' x => Still.eql rfl rfl) ?_
    refine Gq.part (fun c75 => ?_) (fun c75 => ?_)
    · refine Gq.st 4 rfl (by kernel_rfl) rfl .plain rfl (fun _ _ _ h => h) hB7 (fun w' x => Still.move rfl) ?_
      refine Gq.off 5 rfl (by kernel_rfl) rfl rfl rfl rfl rfl rfl (fun _ _ _ h => h) hB7 ?_
      refine Gq.off 6 rfl (by kernel_rfl) rfl rfl rfl rfl rfl rfl (fun _ _ _ h => h) hB7 ?_
      refine Gq.off 7 rfl (by kernel_rfl) rfl rfl rfl rfl rfl rfl (fun _ _ _ h => h) hB7 ?_
      refine Gq.st 8 rfl (by kernel_rfl) rfl .plain rfl (fun _ _ _ h => h) hB7 (fun w' x => Still.pickT rfl rfl) ?_
      refine Gq.one 9 rfl (by kernel_rfl) ?_
      refine Sq.lit sl24 rfl rfl .plain rfl rfl (one_cons rfl one_nil) (fun b76 w77 e78 hlo79 ho80 _ => ?_)
      replace ho80 := ho80 w72.heap.size (Nat.le_refl _)
      have hs82 := Below.size e78
      replace G := grown_trans G (Ext.to_grown e78 _)
      replace hB4 := hB4.ext e78
      replace hR := hR.ext e78
      replace hB7 := hB7.ext e78
      replace hoa := hoa.ext e78
      replace ho62r := ho62r.ext e78
      refine Sq.nil ?_
      refine Eq.goes (fun _ => hB7) ?_
      refine Gq.one 10 rfl (by kernel_rfl) ?_
      refine Sq.app sl24 hoa (by omega) (Own.row ho80) (one_cons rfl one_nil) (by first | omega | (simp; omega)) .plain rfl rfl rfl rfl (fun v83 w84 ho86 g85 => ?_)
      have hs87 := g85.size
      replace G := grown_new G hoa g85 (by omega)
      replace hB4 := hB4.owned hoa g85 (by decide)
      replace hR := hR.owned hoa g85 (by decide)
      replace hB7 := hB7.owned hoa g85 (by decide)
      replace ho62r := ho62r.owned hoa g85 (by decide) (by decide)
      refine Sq.nil ?_
      refine Eq.goes (fun _ => hB7) ?_
      refine Gq.one 11 rfl (by kernel_rfl) ?_
      refine Sq.fieldAddr fld26_2 .plain rfl rfl ?_
      refine Sq.nil ?_
      refine Eq.goes (fun h => absurd h (by decide)) ?_
      refine Gq.one 12 rfl (by kernel_rfl) ?_
      refine Sq.store one24 .plain rfl rfl (Row.one (Own.row ho86)) hB7 (by simp) (fun w88 g89 hB90 => ?_)
      have hs91 := World.grownBy.size g89
      replace G := grown_far G g89 (fun k hk => by injection hk with hk; subst hk; omega)
      replace hB4 := hB4.grown g89 (by intro h; injection h with h; omega)
      replace hR := hR.grown g89 (by intro h; injection h with h; omega)
      replace ho62r := ho62r.stored g89 hB7 (by decide) (by decide)
      replace ho86 := ho86.stored g89 hB7 (by decide)
      replace hB7 := hB90
      refine Sq.nil ?_
      refine Eq.goes (fun h => absurd h (by decide)) ?_
      refine Gq.done (by kernel_rfl) ?_
      refine Eq.end ?_
      refine Eq.next ?_
      refine Cq.region ?_
      refine Sq.move .plain rfl rfl ?_
      refine Sq.add .plain rfl rfl rfl (by omega) ?_
      refine Sq.assign .plain rfl rfl ?_
      refine Sq.nil ?_
      refine Eq.round _ _ ⟨i + 1, _, _, _, _, _, rfl, by omega, by omega, hR, hB7, OwnRows.now ho62r, Own.snocB ho86, ⟨by simp; omega, by simp; omega, rows_snoc hxl.2.2 (rowOk_mk rfl (by simp; omega))⟩, G, hB4, rfl⟩ (by omega) (.cons rfl (.cons rfl (.cons rfl (.cons rfl (.nil)))))
    refine Gq.st 4 rfl (by kernel_rfl) rfl .plain rfl (fun _ _ _ h => h) hB7 (fun w' x => Still.move rfl) ?_
    refine Gq.st 5 rfl (by kernel_rfl) rfl (.met rfl rfl rfl) rfl (fun _ _ _ h => h) hB7 (fun w' x => Still.move rfl) ?_
    refine Gq.one 6 rfl (by kernel_rfl) ?_
    refine Sq.call fn48 (.met rfl rfl rfl) rfl rfl (pick_c _ _ _ _ _ _ hR (hb.go G) hbl (by omega) 5 (by omega)) ?_
    rintro _ w93 ⟨⟨p94, hp97, hB96, g95⟩, ⟨k98, rfl, hk99⟩⟩
    have hs100 := World.grownBy.size g95
    have hs101 := World.grownBy.size G
    have hs102 := World.grownBy.size g95
    replace G := grown_trans G g95
    replace hB4 := hB4.grown g95 (by intro h; injection h with h; omega)
    replace hB7 := hB7.grown g95 (by intro h; injection h with h; omega)
    replace hoa := hoa.stored g95 hR (by decide)
    replace ho62r := ho62r.stored g95 hR (by decide) (by decide)
    replace hR := hB96
    refine Sq.nil ?_
    refine Eq.goes (fun _ => hB7) ?_
    refine Gq.st 7 rfl (by kernel_rfl) rfl (.met rfl rfl rfl) rfl (fun _ _ _ h => h) hB7 (fun w' x => Still.eql rfl rfl) ?_
    refine Gq.st 8 rfl (by kernel_rfl) rfl .plain rfl (fun _ _ _ h => h) hB7 (fun w' x => Still.pickF rfl rfl) ?_
    refine Gq.one 9 rfl (by kernel_rfl) ?_
    refine Sq.lit sl24 rfl rfl .plain rfl rfl (one_cons rfl one_nil) (fun b103 w104 e105 hlo106 ho107 _ => ?_)
    replace ho107 := ho107 w93.heap.size (Nat.le_refl _)
    have hs109 := Below.size e105
    replace G := grown_trans G (Ext.to_grown e105 _)
    replace hB4 := hB4.ext e105
    replace hR := hR.ext e105
    replace hB7 := hB7.ext e105
    replace hoa := hoa.ext e105
    replace ho62r := ho62r.ext e105
    refine Sq.nil ?_
    refine Eq.goes (fun _ => hB7) ?_
    refine Gq.one 10 rfl (by kernel_rfl) ?_
    refine Sq.app sl24 hoa (by omega) (Own.row ho107) (one_cons rfl one_nil) (by first | omega | (simp; omega)) .plain rfl rfl rfl rfl (fun v110 w111 ho113 g112 => ?_)
    have hs114 := g112.size
    replace G := grown_new G hoa g112 (by omega)
    replace hB4 := hB4.owned hoa g112 (by decide)
    replace hR := hR.owned hoa g112 (by decide)
    replace hB7 := hB7.owned hoa g112 (by decide)
    replace ho62r := ho62r.owned hoa g112 (by decide) (by decide)
    refine Sq.nil ?_
    refine Eq.goes (fun _ => hB7) ?_
    refine Gq.one 11 rfl (by kernel_rfl) ?_
    refine Sq.fieldAddr fld26_2 .plain rfl rfl ?_
    refine Sq.nil ?_
    refine Eq.goes (fun h => absurd h (by decide)) ?_
    refine Gq.one 12 rfl (by kernel_rfl) ?_
    refine Sq.store one24 .plain rfl rfl (Row.one (Own.row ho113)) hB7 (by simp) (fun w115 g116 hB117 => ?_)
    have hs118 := World.grownBy.size g116
    replace G := grown_far G g116 (fun k hk => by injection hk with hk; subst hk; omega)
    replace hB4 := hB4.grown g116 (by intro h; injection h with h; omega)
    replace hR := hR.grown g116 (by intro h; injection h with h; omega)
    replace ho62r := ho62r.stored g116 hB7 (by decide) (by decide)
    replace ho113 := ho113.stored g116 hB7 (by decide)
    replace hB7 := hB117
    refine Sq.nil ?_
    refine Eq.goes (fun h => absurd h (by decide)) ?_
    refine Gq.done (by kernel_rfl) ?_
    refine Eq.end ?_
    refine Eq.next ?_
    refine Cq.region ?_
    refine Sq.move .plain rfl rfl ?_
    refine Sq.add .plain rfl rfl rfl (by omega) ?_
    refine Sq.assign .plain rfl rfl ?_
    refine Sq.nil ?_
    refine Eq.round _ _ ⟨i + 1, _, _, _, _, _, rfl, by omega, by omega, hR, hB7, OwnRows.now ho62r, Own.snocB ho113, ⟨by simp; omega, by simp; omega, rows_snoc hxl.2.2 (rowOk_mk rfl (by simp; omega))⟩, G, hB4, rfl⟩ (by omega) (.cons rfl (.cons rfl (.cons rfl (.cons rfl (.nil)))))
  refine Sq.nil ?_
  refine Eq.next ?_
  refine Cq.els rfl ?_
  refine Cq.exit ?_
  refine Eq.past ?_
  refine Eq.past ?_
  refine Eq.hit ?_
  refine Eq.next ?_
  refine Cq.seq ?_
  refine Cq.region ?_
  refine Sq.loadAgg agg26 .plain rfl rfl hB7 rfl ?_
  refine Sq.storeAgg agg26 .plain rfl rfl (one_cons rfl (one_cons (Rows.one (OwnRows.rows hor)) (one_cons (Row.one (Own.row hoa)) one_nil))) hB4 rfl rfl (fun w119 g120 hB121 => ?_)
  have hs122 := World.grownBy.size g120
  replace G := grown_far G g120 (fun k hk => by injection hk with hk; subst hk; omega)
  replace hR := hR.grown g120 (by intro h; injection h with h; omega)
  replace hor := hor.stored g120 hB4 (by decide) (by decide)
  replace hoa := hoa.stored g120 hB4 (by decide)
  replace hB4 := hB121
  refine Sq.nil ?_
  refine Eq.next ?_
  refine Cq.ret ?_
  refine Eq.retCell rfl rfl agg26 hB4 rfl ?_
  exact ⟨⟨_, by omega, hR, G⟩, ⟨3, xss, ys⟩, ⟨_, _, rfl, OwnRows.now hor, hoa⟩, validA_mk (by show (0 : Int) ≤ 3 ∧ (3 : Int) ≤ 63; decide) (by show 1 ≤ xss.length ∧ xss.length ≤ 12; omega) (by show ys.length = xss.length; omega) (by intro row hr; have e : ((⟨3, xss, ys⟩ : A).next.length : Int) = 12 := (by show (xss.length : Int) = 12; omega); rw [e]; show rowOk ((letters 3).length : Int) 12 row = true; rw [show ((letters 3).length : Int) = 2 from by decide]; exact hxl.2.2 row hr)⟩
end Go.Proofs.Ytoboklelbbgcnaa
