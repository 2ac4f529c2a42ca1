/-
  Walks, printed by a program out of the translation and a contract for each function; each step is one law.
-/
import Derived.Test.YtdejmfkpohgamaaWo
import Derived.Test.YtdejmfkpohgamaaRun
set_option linter.unusedSimpArgs false
set_option linter.unusedVariables false
namespace Go.Proofs.Ytdejmfkpohgamaa
open Go.RowKit

set_option maxRecDepth 100000 in
theorem restrict_c (s : ByteArray) (al : Int) (hal : 0 ≤ al ∧ al ≤ 63) (hsz : s.size ≤ 1000000) (w0 : World) : Ret Try.prog 71 #[Value.string s, Value.int .i64 al] w0 (fun v w => v = .string (restr s al) ∧ Ext w0 w) := by
  have E := Ext.refl w0
  refine Ret.of (args := [Value.string s, Value.int .i64 al]) Try.func71 rfl rfl rfl ?_
  rintro _ rfl
  show Cq _ _ _ _ [(0, Value.string s), (1, Value.int .i64 al)] _
  refine Cq.seq ?_
  refine Cq.region ?_
  refine Sq.assign .plain rfl rfl ?_
  refine Sq.nil ?_
  refine Eq.next ?_
  refine Cq.seq ?_
  refine Cq.region ?_
  refine Sq.assign .plain rfl rfl ?_
  refine Sq.nil ?_
  refine Eq.next ?_
  refine Cq.seq ?_
  refine Cq.seq ?_
  refine Cq.region ?_
  refine Sq.move .plain rfl rfl ?_
  refine Sq.lenStr .plain rfl und9 rfl ?_
  refine Sq.move .plain rfl rfl ?_
  refine Sq.nil ?_
  refine Eq.next ?_
  refine Cq.block ?_
  refine Cq.loop (fun nn w ls => ∃ (k : Int), ∃ (v : Value), ls = [(0, Value.string s), (1, Value.int .i64 al), (5, v), (8, Value.int .i64 (ByteArray.size s : Int)), (9, Value.int .i64 k)] ∧ (0 ≤ k ∧ k ≤ s.size) ∧ Own w w0.heap.size 5 v ((restrTo s al k.toNat).map fun b => Value.int .u8 (b.toNat : Int)) ∧ Ext w0 w ∧ nn = ((s.size : Int) - k).toNat) _ _ ⟨0, _, rfl, by omega, Own.nil _ _ _, E, rfl⟩ (.cons rfl (.cons rfl (.cons rfl (.cons rfl (.cons rfl (.nil)))))) ?_
  rintro nn wl1 ls ⟨k, v, rfl, hk, ho, E, rfl⟩
  have hs1 := Below.size E
  have hrl := restrTo_length s al k.toNat
  refine Cq.seq ?_
  refine Cq.region ?_
  refine Sq.lss .plain rfl rfl rfl ?_
  refine Sq.part (fun c2 => ?_) (fun c2 => ?_)
  · refine Sq.nil ?_
    refine Eq.next ?_
    refine Cq.seq ?_
    refine Cq.thn rfl ?_
    refine Cq.skip ?_
    refine Eq.next ?_
    refine Cq.seq ?_
    refine Cq.block ?_
    refine Cq.seq ?_
    refine Cq.region ?_
    refine Sq.move .plain rfl rfl ?_
    refine Sq.assign .plain rfl rfl ?_
    refine Sq.nil ?_
    refine Eq.next ?_
    refine Cq.seq ?_
    refine Cq.region ?_
    refine Sq.move .plain rfl rfl ?_
    refine Sq.move .plain rfl rfl ?_
    refine Sq.move .plain rfl rfl ?_
    refine Sq.call fn69 .plain rfl rfl (letterAt_c s k (by omega) _) ?_
    rintro _ _ ⟨rfl, rfl⟩
    refine Sq.call fn68 .plain rfl rfl (has_c _ _ (by omega) _) ?_
    rintro _ _ ⟨rfl, rfl⟩
    refine Sq.partB (fun hb => ?_) (fun hb => ?_)
    · refine Sq.nil ?_
      refine Eq.next ?_
      refine Cq.thn rfl ?_
      refine Cq.region ?_
      refine Sq.move .plain rfl rfl ?_
      refine Sq.move .plain rfl rfl ?_
      refine Sq.move .plain rfl rfl ?_
      refine Sq.idxStr .plain rfl und9 rfl rfl (by omega) (str_at (by omega)) ?_
      refine Sq.app1 sl22 ho (by omega) (by simp; omega) .plain rfl rfl rfl rfl rfl rfl rfl (fun v4 w5 ho7 g6 _ => ?_)
      have hs8 := g6.size
      replace E := E.owned ho g6 (by omega)
      refine Sq.assign .plain rfl rfl ?_
      refine Sq.nil ?_
      refine Eq.end ?_
      refine Eq.next ?_
      refine Cq.region ?_
      refine Sq.add .plain rfl rfl rfl (by omega) ?_
      refine Sq.move .plain rfl rfl ?_
      refine Sq.nil ?_
      have e1 := toNat_succ hk.1
      rw [hs_clip hal] at hb
      refine Eq.round _ _ ⟨k + 1, _, rfl, by omega, by rw [e1, restrTo_T (by omega) hb]; exact Own.snocU ho7, E, rfl⟩ (by omega) (.cons rfl (.cons rfl (.cons rfl (.cons rfl (.cons rfl (.nil))))))
    · refine Sq.nil ?_
      refine Eq.next ?_
      refine Cq.els rfl ?_
      refine Cq.skip ?_
      refine Eq.end ?_
      refine Eq.next ?_
      refine Cq.region ?_
      refine Sq.add .plain rfl rfl rfl (by omega) ?_
      refine Sq.move .plain rfl rfl ?_
      refine Sq.nil ?_
      have e1 := toNat_succ hk.1
      rw [hs_clip hal] at hb
      refine Eq.round _ _ ⟨k + 1, _, rfl, by omega, by rw [e1, restrTo_F (by omega) hb]; exact ho, E, rfl⟩ (by omega) (.cons rfl (.cons rfl (.cons rfl (.cons rfl (.cons rfl (.nil))))))
  · refine Sq.nil ?_
    refine Eq.next ?_
    refine Cq.seq ?_
    refine Cq.els rfl ?_
    refine Cq.exit ?_
    refine Eq.past ?_
    refine Eq.past ?_
    refine Eq.hit ?_
    refine Eq.next ?_
    refine Cq.seq ?_
    refine Cq.region ?_
    refine Sq.move .plain rfl rfl ?_
    refine Sq.val .plain rfl rfl (Still.text und22 und8_22 und9 (Own.row ho) rfl) ?_
    refine Sq.assign .plain rfl rfl ?_
    refine Sq.nil ?_
    refine Eq.next ?_
    refine Cq.ret ?_
    refine Eq.ret1 rfl rfl ?_
    exact ⟨by rw [restrTo_done (by omega)], E⟩

set_option maxRecDepth 100000 in
theorem restrictW_c (s : ByteArray) (al : Int) (hsz : s.size ≤ 1000000) (w0 : World) : Ret Try.prog 27 #[Value.string s, Value.int .i64 al] w0 (fun v w => v = .string (restrictW s al) ∧ Ext w0 w) := by
  have E := Ext.refl w0
  refine Ret.of (args := [Value.string s, Value.int .i64 al]) Try.func27 rfl rfl rfl ?_
  rintro _ rfl
  show Cq _ _ _ _ [(0, Value.string s), (1, Value.int .i64 al)] _
  refine Cq.seq ?_
  refine Cq.region ?_
  refine Sq.assign .plain rfl rfl ?_
  refine Sq.nil ?_
  refine Eq.next ?_
  refine Cq.seq ?_
  refine Cq.seq ?_
  refine Cq.region ?_
  refine Sq.move .plain rfl rfl ?_
  refine Sq.call fn70 .plain rfl rfl (wordValid_c s _) ?_
  rintro _ _ ⟨rfl, rfl⟩
  refine Sq.partB (fun hv => ?_) (fun hv => ?_)
  · refine Sq.notT .plain rfl rfl ?_
    refine Sq.move .plain rfl rfl ?_
    refine Sq.move (.met rfl rfl rfl) rfl rfl ?_
    refine Sq.call fn60 (.met rfl rfl rfl) rfl rfl (isAlphabet_c _ _) ?_
    rintro _ _ ⟨rfl, rfl⟩
    refine Sq.part (fun hal => ?_) (fun hal => ?_)
    · refine Sq.notT (.met rfl rfl rfl) rfl rfl ?_
      refine Sq.pickF .plain rfl rfl rfl ?_
      refine Sq.nil ?_
      refine Eq.next ?_
      refine Cq.els rfl ?_
      refine Cq.skip ?_
      refine Eq.next ?_
      refine Cq.seq ?_
      refine Cq.region ?_
      refine Sq.move .plain rfl rfl ?_
      refine Sq.move .plain rfl rfl ?_
      refine Sq.call fn71 .plain rfl rfl (restrict_c s al (by omega) (by omega) _) ?_
      rintro _ w2 ⟨rfl, e3⟩
      have hs4 := Below.size E
      have hs5 := Below.size e3
      replace E := E.trans e3
      refine Sq.assign .plain rfl rfl ?_
      refine Sq.nil ?_
      refine Eq.next ?_
      refine Cq.ret ?_
      refine Eq.ret1 rfl rfl ?_
      exact ⟨by rw [restrictW_good hv hal], E⟩
    · refine Sq.notF (.met rfl rfl rfl) rfl rfl ?_
      refine Sq.pickF .plain rfl rfl rfl ?_
      refine Sq.nil ?_
      refine Eq.next ?_
      refine Cq.thn rfl ?_
      refine Cq.seq ?_
      refine Cq.region ?_
      refine Sq.assign .plain rfl rfl ?_
      refine Sq.nil ?_
      refine Eq.next ?_
      refine Cq.ret ?_
      refine Eq.pastRet ?_
      refine Eq.ret1 rfl rfl ?_
      exact ⟨by rw [restrictW, if_neg (by exact fun h => hal h.2)], E⟩
  · refine Sq.notF .plain rfl rfl ?_
    refine Sq.move .plain rfl rfl ?_
    refine Sq.off rfl rfl rfl rfl rfl rfl ?_
    refine Sq.off rfl rfl rfl rfl rfl rfl ?_
    refine Sq.off rfl rfl rfl rfl rfl rfl ?_
    refine Sq.pickT .plain rfl rfl rfl ?_
    refine Sq.nil ?_
    refine Eq.next ?_
    refine Cq.thn rfl ?_
    refine Cq.seq ?_
    refine Cq.region ?_
    refine Sq.assign .plain rfl rfl ?_
    refine Sq.nil ?_
    refine Eq.next ?_
    refine Cq.ret ?_
    refine Eq.pastRet ?_
    refine Eq.ret1 rfl rfl ?_
    exact ⟨by rw [restrictW, if_neg (by rw [hv]; simp)], E⟩

end Go.Proofs.Ytdejmfkpohgamaa
