/-
  Walks, printed by a program out of the translation and a contract for each function; each step is one law.
-/
import Derived.Test.YtdkdpmmfebdeaaaWt
import Derived.Test.YtdkdpmmfebdeaaaPath
import Derived.Test.YtdkdpmmfebdeaaaTz
import Derived.Test.YtdkdpmmfebdeaaaNb
set_option linter.unusedSimpArgs false
set_option linter.unusedVariables false
namespace Go.Proofs.Ytdkdpmmfebdeaaa
open Go.RowKit

set_option maxRecDepth 100000 in
theorem pathWord_c (w0 : World) (B : Nat) (tv : Value) (rs : List (Int × Int × Value)) (f : Int → Int → Int) (s : Int) (ws : List (List Int)) (hW : Wid w0 B 106 3 tv (rows3 rs)) (hSt : Trail w0 3 f s ws rs) (wd : List Int) (hwd : ws[ws.length - 1]? = some wd) (hwl : wd.length ≤ 1000) (hsl : ws.length ≤ 1000) : Ret Try.prog 107 #[tv] w0 (fun v w => v = .string (txt wd) ∧ Ext w0 w) := by
  have E := Ext.refl w0
  have hwn := (List.getElem?_eq_some_iff.1 hwd).1
  have hrl := hSt.len
  refine Ret.of (args := [tv]) Try.func107 rfl rfl rfl ?_
  rintro _ rfl
  show Cq _ _ _ _ [(0, tv)] _
  refine Cq.seq ?_
  refine Cq.region ?_
  refine Sq.assign .plain rfl rfl ?_
  refine Sq.nil ?_
  refine Eq.next ?_
  refine Cq.seq ?_
  refine Cq.region ?_
  refine Sq.assign .plain rfl rfl ?_
  refine Sq.nil ?_
  refine Eq.next ?_
  refine Cq.seq ?_
  refine Cq.seq ?_
  refine Cq.region ?_
  refine Sq.move .plain rfl rfl ?_
  refine Sq.lenWid hW .plain rfl und104 rfl ?_
  rw [rows3_length]
  refine Sq.sub .plain rfl rfl rfl (by omega) ?_
  refine Sq.assign .plain rfl rfl ?_
  refine Sq.nil ?_
  refine Eq.next ?_
  refine Cq.block ?_
  refine Cq.loop (fun nn w ls => ∃ (j : Int), ∃ (u : List Int), ∃ (t : List Int), ∃ (ov : Value), ls = [(0, tv), (3, ov), (4, Value.int .i64 j)] ∧ (0 ≤ j) ∧ ws[j.toNat]? = some u ∧ wd = u ++ t ∧ Own w w0.heap.size 5 ov ((txb t.reverse).map fun b => Value.int .u8 (b.toNat : Int)) ∧ Ext w0 w ∧ Wid w B 106 3 tv (rows3 rs) ∧ nn = u.length) _ _ ⟨(List.length rs : Int) - 1, wd, [], _, rfl, by omega, by rw [show ((List.length rs : Int) - 1).toNat = ws.length - 1 by omega]; exact hwd, by simp, Own.nil _ _ _, E, hW, rfl⟩ (.cons rfl (.cons rfl (.cons rfl (.nil)))) ?_
  rintro nn wl1 ls ⟨j, u, t, ov, rfl, hj, hu, hut, ho, E, hW, rfl⟩
  have hs1 := Below.size E
  obtain ⟨p, l, fv, hr, hlk, hfv⟩ := hSt.row _ _ hu
  have hlt := (List.getElem?_eq_some_iff.1 hr).1
  have htl : t.length ≤ 1000 := by rw [hut, List.length_append] at hwl; omega
  have htx : (txb t.reverse).length = t.length := by simp [txb]
  refine Cq.seq ?_
  refine Cq.seq ?_
  refine Cq.region ?_
  refine Sq.move .plain rfl rfl ?_
  refine Sq.move .plain rfl rfl ?_
  obtain ⟨gq2, kq2, hvq2, hlq2, haq2, hbq2, hcq2⟩ := Wid.triple hW (i := j) (by omega) hr
  refine Sq.val .plain rfl rfl (Still.ixV slw104 hvq2 rfl rfl (by omega)) ?_
  refine Sq.fieldAddr fld106_0 .plain rfl rfl ?_
  refine Sq.val .plain rfl rfl (Still.load one3 rfl haq2) ?_
  refine Sq.geq .plain rfl rfl rfl ?_
  refine Sq.part (fun hp => ?_) (fun hp => ?_)
  · refine Sq.nil ?_
    refine Eq.next ?_
    refine Cq.thn rfl ?_
    refine Cq.skip ?_
    refine Eq.next ?_
    refine Cq.seq ?_
    refine Cq.block ?_
    refine Cq.region ?_
    obtain ⟨u2, hu2, hp0, hu3⟩ : ∃ u2, u = u2 ++ [l] ∧ 0 ≤ p ∧ ws[p.toNat]? = some u2 := hlk.resolve_left (fun h => by have := h.2; omega)
    have hll := hSt.lets u (List.mem_of_getElem? hu) l (by rw [hu2]; simp)
    refine Sq.move .plain rfl rfl ?_
    refine Sq.move .plain rfl rfl ?_
    refine Sq.move .plain rfl rfl ?_
    obtain ⟨gq3, kq3, hvq3, hlq3, haq3, hbq3, hcq3⟩ := Wid.triple hW (i := j) (by omega) hr
    refine Sq.val .plain rfl rfl (Still.ixV slw104 hvq3 rfl rfl (by omega)) ?_
    refine Sq.fieldAddr fld106_1 .plain rfl rfl ?_
    refine Sq.val .plain rfl rfl (Still.load one3 rfl hbq3) ?_
    refine Sq.call fn109 .plain rfl rfl (letterByte_c l (by omega) _) ?_
    rintro _ _ ⟨rfl, rfl⟩
    refine Sq.app1 sl103 ho (by omega) (by first | omega | (rw [List.length_map]; omega)) .plain rfl rfl rfl rfl rfl rfl rfl (fun v4 w5 ho7 g6 _ => ?_)
    have hs8 := g6.size
    replace E := E.owned ho g6 (by omega)
    replace hW := hW.owned ho g6 (by decide)
    refine Sq.assign .plain rfl rfl ?_
    refine Sq.nil ?_
    refine Eq.end ?_
    refine Eq.next ?_
    refine Cq.region ?_
    refine Sq.move .plain rfl rfl ?_
    refine Sq.move .plain rfl rfl ?_
    obtain ⟨gq9, kq9, hvq9, hlq9, haq9, hbq9, hcq9⟩ := Wid.triple hW (i := j) (by omega) hr
    refine Sq.val .plain rfl rfl (Still.ixV slw104 hvq9 rfl rfl (by omega)) ?_
    refine Sq.fieldAddr fld106_0 .plain rfl rfl ?_
    refine Sq.val .plain rfl rfl (Still.load one3 rfl haq9) ?_
    refine Sq.assign .plain rfl rfl ?_
    refine Sq.nil ?_
    refine Eq.round _ _ ⟨p, u2, l :: t, _, rfl, hp0, hu3, by rw [hut, hu2]; simp, Own.snocT ho7 hll, E, hW, rfl⟩ (by rw [hu2, List.length_append]; simp) (.cons rfl (.cons rfl (.cons rfl (.nil))))
  · refine Sq.nil ?_
    refine Eq.next ?_
    refine Cq.els rfl ?_
    refine Cq.exit ?_
    refine Eq.past ?_
    refine Eq.past ?_
    refine Eq.hit ?_
    refine Eq.next ?_
    refine Cq.seq ?_
    refine Cq.region ?_
    refine Sq.move .plain rfl rfl ?_
    refine Sq.call fn110 .plain rfl rfl (reverse_c _ _ _ _ ho (by omega)) ?_
    rintro _ w10 ⟨rfl, ho12, g11⟩
    have hs13 := World.grownBy.size g11
    replace E := E.owned ho g11 (by omega)
    replace hW := hW.owned ho g11 (by decide)
    replace ho := ho12
    refine Sq.nil ?_
    refine Eq.next ?_
    refine Cq.seq ?_
    refine Cq.region ?_
    refine Sq.move .plain rfl rfl ?_
    refine Sq.val .plain rfl rfl (Still.text und103 und8_103 und9 (Own.row ho) rfl) ?_
    refine Sq.assign .plain rfl rfl ?_
    refine Sq.nil ?_
    refine Eq.next ?_
    refine Cq.ret ?_
    refine Eq.ret1 rfl rfl ?_
    rcases hlk with ⟨rfl, _⟩ | ⟨_, _, h0, _⟩
    · exact ⟨by rw [txb_rev, hut]; rfl, E⟩
    · exact absurd h0 (by omega)

end Go.Proofs.Ytdkdpmmfebdeaaa
