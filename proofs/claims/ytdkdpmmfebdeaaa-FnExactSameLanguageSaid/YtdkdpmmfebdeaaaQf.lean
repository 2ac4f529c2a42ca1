/-
  Walks, printed by a program out of the translation and a contract for each function; each step is one law.
-/
import Derived.Test.YtdkdpmmfebdeaaaQe
import Derived.Test.YtdkdpmmfebdeaaaNb
set_option linter.unusedSimpArgs false
set_option linter.unusedVariables false
namespace Go.Proofs.Ytdkdpmmfebdeaaa
open Go.RowKit

set_option maxRecDepth 100000 in
theorem l4Closer_c (w0 : World) (mv dv av : Value) (xsss : List (List (List Int))) (ds : List Int) (q k d t : Int) (hm : Read3 w0 22 52 3 mv xsss) (hd : Ints w0 3 dv ds) (ha : Ints w0 3 av [q]) (hq : 0 ≤ q ∧ q < xsss.length) (hk : 0 ≤ k ∧ k < (xsss.getD q.toNat []).length) (ht : (xsss.getD q.toNat []).getD k.toNat [] = [t]) (htb : 0 ≤ t ∧ t < (ds.length : Int)) : Ret Try.prog 93 #[mv, dv, av, Value.int .i64 k, Value.int .i64 d] w0 (fun v w => Own w w0.heap.size 3 v ((if ds.getD t.toNat 0 = d then [t] else []).map (Value.int .i64)) ∧ Ext w0 w) := by
  have E := Ext.refl w0
  obtain ⟨p1, r1, hp1, hr1⟩ := Read3.at hm (i := q) (by omega) (by omega)
  obtain ⟨p2, r2, hp2, hr2⟩ := Rows.at hr1 (i := k) (by omega) (by omega)
  rw [ht] at hr2
  have hl1 : (List.length ([q] : List Int) : Int) = 1 := rfl
  have hl2 : (List.length ([t] : List Int) : Int) = 1 := rfl
  refine Ret.of (args := [mv, dv, av, Value.int .i64 k, Value.int .i64 d]) Try.func93 rfl rfl rfl ?_
  rintro _ rfl
  show Cq _ _ _ _ [(0, mv), (1, dv), (2, av), (3, Value.int .i64 k), (4, Value.int .i64 d)] _
  refine Cq.seq ?_
  refine Cq.region ?_
  refine Sq.assign .plain rfl rfl ?_
  refine Sq.nil ?_
  refine Eq.next ?_
  refine Cq.seq ?_
  refine Cq.region ?_
  refine Sq.lit sl52 rfl rfl .plain rfl rfl one_nil (fun b1 w2 e3 hlo4 ho5 _ => ?_)
  replace ho5 := ho5 w0.heap.size (Nat.le_refl _)
  have hs7 := Below.size e3
  replace E := E.trans e3
  refine Sq.assign .plain rfl rfl ?_
  refine Sq.nil ?_
  refine Eq.next ?_
  refine Cq.seq ?_
  refine Cq.seq ?_
  refine Cq.region ?_
  refine Sq.assign .plain rfl rfl ?_
  refine Sq.nil ?_
  refine Eq.next ?_
  refine Cq.block ?_
  refine Cq.loop (fun nn w ls => ∃ (j : Int), ∃ (ov : Value), ∃ (xs : List Int), ls = [(0, mv), (1, dv), (2, av), (3, Value.int .i64 k), (4, Value.int .i64 d), (11, ov), (12, Value.int .i64 j)] ∧ (0 ≤ j ∧ j ≤ 1) ∧ Own w w0.heap.size 3 ov (xs.map (Value.int .i64)) ∧ xs = (if j = 0 then [] else (if ds.getD t.toNat 0 = d then [t] else [])) ∧ Ext w0 w ∧ nn = (1 - j).toNat) _ _ ⟨0, _, [], rfl, by omega, Own.mono ho5 (by omega), rfl, E, rfl⟩ (.cons rfl (.cons rfl (.cons rfl (.cons rfl (.cons rfl (.cons rfl (.cons rfl (.nil)))))))) ?_
  rintro nn wl1 ls ⟨j, ov, xs, rfl, hj, ho, hxs, E, rfl⟩
  have hs8 := Below.size E
  refine Cq.seq ?_
  refine Cq.seq ?_
  refine Cq.region ?_
  refine Sq.move .plain rfl rfl ?_
  refine Sq.move .plain rfl rfl ?_
  refine Sq.lenInts (ha.ext E) .plain rfl und52 rfl ?_
  refine Sq.lss .plain rfl rfl rfl ?_
  refine Sq.part (fun c9 => ?_) (fun c9 => ?_)
  · refine Sq.nil ?_
    refine Eq.next ?_
    refine Cq.thn rfl ?_
    refine Cq.skip ?_
    refine Eq.next ?_
    refine Cq.seq ?_
    refine Cq.block ?_
    refine Cq.seq ?_
    refine Cq.region ?_
    refine Sq.move .plain rfl rfl ?_
    refine Sq.move .plain rfl rfl ?_
    refine Sq.move .plain rfl rfl ?_
    have hj0 : j = 0 := by omega
    have hqj : ([q] : List Int).getD j.toNat 0 = q := by rw [hj0]; rfl
    refine Sq.idxInts sl52 one3 (ha.ext E) .plain rfl rfl rfl .plain rfl rfl (by omega) (by simp only [List.length_singleton]; omega) ?_
    rw [hqj]
    refine Sq.val .plain rfl rfl (Still.at' sl85 (hp1.ext E) rfl rfl) ?_
    refine Sq.val .plain rfl rfl (Still.loadA one22 rfl (hp1.ext E).1) ?_
    refine Sq.move .plain rfl rfl ?_
    refine Sq.val .plain rfl rfl (Still.at' sl22 (hp2.ext E) rfl rfl) ?_
    refine Sq.val .plain rfl rfl (Still.loadA one52 rfl (hp2.ext E).1) ?_
    refine Sq.assign .plain rfl rfl ?_
    refine Sq.nil ?_
    refine Eq.next ?_
    refine Cq.seq ?_
    refine Cq.region ?_
    refine Sq.assign .plain rfl rfl ?_
    refine Sq.nil ?_
    refine Eq.next ?_
    refine Cq.block ?_
    refine Cq.loop (fun nn w ls => ∃ (m : Int), ∃ (ov2 : Value), ∃ (xs2 : List Int), ls = [(0, mv), (1, dv), (2, av), (3, Value.int .i64 k), (4, Value.int .i64 d), (11, ov2), (12, Value.int .i64 j), (13, r2), (14, Value.int .i64 m)] ∧ (0 ≤ m ∧ m ≤ 1) ∧ Own w w0.heap.size 3 ov2 (xs2.map (Value.int .i64)) ∧ xs2 = (if m = 0 then [] else (if ds.getD t.toNat 0 = d then [t] else [])) ∧ Ext w0 w ∧ nn = (1 - m).toNat) _ _ ⟨0, _, xs, rfl, by omega, ho, by rw [hxs, if_pos hj0, if_pos rfl], E, rfl⟩ (.cons rfl (.cons rfl (.cons rfl (.cons rfl (.cons rfl (.cons rfl (.cons rfl (.cons rfl (.cons rfl (.nil)))))))))) ?_
    rintro nn wl2 ls ⟨m, ov2, xs2, rfl, hm, ho, hxs2, E, rfl⟩
    have hs10 := Below.size E
    have hx2 : xs2.length ≤ 1 := by rw [hxs2]; split; decide; split <;> simp
    refine Cq.seq ?_
    refine Cq.seq ?_
    refine Cq.region ?_
    refine Sq.move .plain rfl rfl ?_
    refine Sq.move .plain rfl rfl ?_
    refine Sq.lenInts (hr2.ext E) .plain rfl und52 rfl ?_
    refine Sq.lss .plain rfl rfl rfl ?_
    refine Sq.part (fun c11 => ?_) (fun c11 => ?_)
    · refine Sq.nil ?_
      refine Eq.next ?_
      refine Cq.thn rfl ?_
      refine Cq.skip ?_
      refine Eq.next ?_
      refine Cq.seq ?_
      refine Cq.block ?_
      refine Cq.seq ?_
      refine Cq.region ?_
      refine Sq.move .plain rfl rfl ?_
      refine Sq.move .plain rfl rfl ?_
      refine Sq.move .plain rfl rfl ?_
      have hm0 : m = 0 := by omega
      have htm : ([t] : List Int).getD m.toNat 0 = t := by rw [hm0]; rfl
      refine Sq.idxInts sl52 one3 (hr2.ext E) .plain rfl rfl rfl .plain rfl rfl (by omega) (by simp only [List.length_singleton]; omega) ?_
      rw [htm]
      refine Sq.idxInts sl52 one3 (hd.ext E) .plain rfl rfl rfl .plain rfl rfl (by omega) (by omega) ?_
      refine Sq.move .plain rfl rfl ?_
      refine Sq.eql .plain rfl rfl rfl ?_
      refine Sq.part (fun hde => ?_) (fun hde => ?_)
      · refine Sq.move .plain rfl rfl ?_
        refine Sq.move (.met rfl rfl rfl) rfl rfl ?_
        refine Sq.move (.met rfl rfl rfl) rfl rfl ?_
        refine Sq.move (.met rfl rfl rfl) rfl rfl ?_
        refine Sq.idxInts sl52 one3 (hr2.ext E) (.met rfl rfl rfl) rfl rfl rfl (.met rfl rfl rfl) rfl rfl (by omega) (by simp only [List.length_singleton]; omega) ?_
        rw [htm]
        refine Sq.call fn102 (.met rfl rfl rfl) rfl rfl (l4In_c _ xs2 _ (Own.row ho) t (by omega)) ?_
        rintro _ _ ⟨rfl, rfl⟩
        refine Sq.isF (by rw [hxs2, if_pos hm0]; simp) ?_
        refine Sq.notF (.met rfl rfl rfl) rfl rfl ?_
        refine Sq.pickT .plain rfl rfl rfl ?_
        refine Sq.nil ?_
        refine Eq.next ?_
        refine Cq.thn rfl ?_
        refine Cq.region ?_
        refine Sq.move .plain rfl rfl ?_
        refine Sq.move .plain rfl rfl ?_
        refine Sq.move .plain rfl rfl ?_
        refine Sq.idxInts sl52 one3 (hr2.ext E) .plain rfl rfl rfl .plain rfl rfl (by omega) (by simp only [List.length_singleton]; omega) ?_
        rw [htm]
        refine Sq.app1 sl52 ho (by omega) (by rw [List.length_map]; omega) .plain rfl rfl rfl rfl rfl rfl rfl (fun v12 w13 ho15 g14 _ => ?_)
        have hs16 := g14.size
        replace E := E.owned ho g14 (by omega)
        refine Sq.assign .plain rfl rfl ?_
        refine Sq.nil ?_
        refine Eq.end ?_
        refine Eq.next ?_
        refine Cq.region ?_
        refine Sq.move .plain rfl rfl ?_
        refine Sq.add .plain rfl rfl rfl (by omega) ?_
        refine Sq.assign .plain rfl rfl ?_
        refine Sq.nil ?_
        have hx20 : xs2 = [] := by rw [hxs2, if_pos hm0]
        subst hx20
        refine Eq.round _ _ ⟨m + 1, _, [t], rfl, by omega, by simpa using ho15, by rw [if_neg (by omega), if_pos hde], E, rfl⟩ (by omega) (.cons rfl (.cons rfl (.cons rfl (.cons rfl (.cons rfl (.cons rfl (.cons rfl (.cons rfl (.cons rfl (.nil))))))))))
      · refine Sq.move .plain rfl rfl ?_
        refine Sq.off rfl rfl rfl rfl rfl rfl ?_
        refine Sq.off rfl rfl rfl rfl rfl rfl ?_
        refine Sq.off rfl rfl rfl rfl rfl rfl ?_
        refine Sq.off rfl rfl rfl rfl rfl rfl ?_
        refine Sq.off rfl rfl rfl rfl rfl rfl ?_
        refine Sq.off rfl rfl rfl rfl rfl rfl ?_
        refine Sq.off rfl rfl rfl rfl rfl rfl ?_
        refine Sq.pickF .plain rfl rfl rfl ?_
        refine Sq.nil ?_
        refine Eq.next ?_
        refine Cq.els rfl ?_
        refine Cq.skip ?_
        refine Eq.end ?_
        refine Eq.next ?_
        refine Cq.region ?_
        refine Sq.move .plain rfl rfl ?_
        refine Sq.add .plain rfl rfl rfl (by omega) ?_
        refine Sq.assign .plain rfl rfl ?_
        refine Sq.nil ?_
        have hx20 : xs2 = [] := by rw [hxs2, if_pos hm0]
        subst hx20
        refine Eq.round _ _ ⟨m + 1, _, [], rfl, by omega, ho, by rw [if_neg (by omega), if_neg hde], E, rfl⟩ (by omega) (.cons rfl (.cons rfl (.cons rfl (.cons rfl (.cons rfl (.cons rfl (.cons rfl (.cons rfl (.cons rfl (.nil))))))))))
    · refine Sq.nil ?_
      refine Eq.next ?_
      refine Cq.els rfl ?_
      refine Cq.exit ?_
      refine Eq.past ?_
      refine Eq.past ?_
      refine Eq.hit ?_
      refine Eq.end ?_
      refine Eq.next ?_
      refine Cq.region ?_
      refine Sq.move .plain rfl rfl ?_
      refine Sq.add .plain rfl rfl rfl (by omega) ?_
      refine Sq.assign .plain rfl rfl ?_
      refine Sq.nil ?_
      have hm1 : m = 1 := by omega
      refine Eq.round _ _ ⟨j + 1, _, xs2, rfl, by omega, ho, by rw [if_neg (by omega), hxs2, if_neg (by omega)], E, rfl⟩ (by omega) (.cons rfl (.cons rfl (.cons rfl (.cons rfl (.cons rfl (.cons rfl (.cons rfl (.nil))))))))
  · refine Sq.nil ?_
    refine Eq.next ?_
    refine Cq.els rfl ?_
    refine Cq.exit ?_
    refine Eq.past ?_
    refine Eq.past ?_
    refine Eq.hit ?_
    refine Eq.next ?_
    refine Cq.seq ?_
    refine Cq.region ?_
    refine Sq.move .plain rfl rfl ?_
    refine Sq.assign .plain rfl rfl ?_
    refine Sq.nil ?_
    refine Eq.next ?_
    refine Cq.ret ?_
    refine Eq.ret1 rfl rfl ?_
    rw [hxs, if_neg (by omega)] at ho
    exact ⟨ho, E⟩

end Go.Proofs.Ytdkdpmmfebdeaaa
