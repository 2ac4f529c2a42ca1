/-
  Walks, printed by a program out of the translation and a contract for each function; each step is one law.
-/
import Derived.Test.YtdkdpmmfebdeaaaQd
set_option linter.unusedSimpArgs false
set_option linter.unusedVariables false
namespace Go.Proofs.Ytdkdpmmfebdeaaa
open Go.RowKit

set_option maxRecDepth 100000 in
theorem l4Dist_c (w0 wm : World) (B : Nat) (mv dv : Value) (f : Int → Int → Int) (L : List Int) (G : Int → Bool) (n : Nat) (Em : Ext wm w0) (hm : Read3 wm 22 52 3 mv ((List.range n).map fun (q : Nat) => L.map fun x => [f (q : Int) x])) (hB : wm.heap.size ≤ B) (ho : Own w0 B 3 dv ((dsOf f L G n 0).map (Value.int .i64))) (hf : ∀ q l, l ∈ L → 0 ≤ f q l ∧ f q l < n) (hn : n ≤ 1000) (hLl : L.length ≤ 100) : Ret Try.prog 91 #[mv, dv] w0 (fun v w => v = .tuple #[] ∧ (∃ d, d ≤ n ∧ Own w B 3 dv ((dsOf f L G n d).map (Value.int .i64)) ∧ ∀ q, 0 ≤ q ∧ q < (n : Int) → disTo f L G (d + 1) q = disTo f L G d q) ∧ w0.grownBy w dv.ownBlock) := by
  have E := Em
  have hgo := World.grownBy.refl w0 dv.ownBlock
  refine Ret.of (args := [mv, dv]) Try.func91 rfl rfl rfl ?_
  rintro _ rfl
  show Cq _ _ _ _ [(0, mv), (1, dv)] _
  refine Cq.seq ?_
  refine Cq.region ?_
  refine Sq.assign .plain rfl rfl ?_
  refine Sq.nil ?_
  refine Eq.next ?_
  refine Cq.seq ?_
  refine Cq.region ?_
  refine Sq.assign .plain rfl rfl ?_
  refine Sq.nil ?_
  refine Eq.next ?_
  refine Cq.block ?_
  refine Cq.loop (fun nn w ls => ∃ (d : Nat), ∃ (more : Bool), ∃ (dI : Int), ls = [(0, mv), (1, dv), (4, Value.bool more), (5, Value.int .i64 dI)] ∧ Own w B 3 dv ((dsOf f L G n d).map (Value.int .i64)) ∧ dI = (d : Int) + 1 ∧ (more = true → d + todo f L G n d 0 ≤ n) ∧ (more = false → ∃ d', d' ≤ n ∧ dsOf f L G n d = dsOf f L G n d' ∧ ∀ q, 0 ≤ q ∧ q < (n : Int) → disTo f L G (d' + 1) q = disTo f L G d' q) ∧ Ext wm w ∧ World.grownBy w0 w dv.ownBlock ∧ nn = 2 * todo f L G n d 0 + (if more = true then 1 else 0)) _ _ ⟨0, true, 1, rfl, ho, rfl, fun _ => by have := todo_le (f := f) (L := L) (G := G) (n := n) 0 0; omega, fun h => absurd h (by decide), E, hgo, rfl⟩ (.cons rfl (.cons rfl (.cons rfl (.cons rfl (.nil))))) ?_
  rintro nn wl1 ls ⟨d, more, dI, rfl, ho, hdI, hdn, hst, E, hgo, rfl⟩
  have hs1 := Below.size E
  have hdl := dsOf_length (f := f) (L := L) (G := G) (n := n) d
  refine Cq.seq ?_
  refine Cq.seq ?_
  refine Cq.region ?_
  refine Sq.move .plain rfl rfl ?_
  refine Sq.partB (fun hmore => ?_) (fun hmore => ?_)
  · refine Sq.nil ?_
    refine Eq.next ?_
    refine Cq.thn rfl ?_
    refine Cq.skip ?_
    refine Eq.next ?_
    refine Cq.seq ?_
    refine Cq.block ?_
    refine Cq.seq ?_
    refine Cq.region ?_
    refine Sq.assign .plain rfl rfl ?_
    refine Sq.nil ?_
    refine Eq.next ?_
    refine Cq.seq ?_
    refine Cq.region ?_
    refine Sq.assign .plain rfl rfl ?_
    refine Sq.nil ?_
    refine Eq.next ?_
    refine Cq.block ?_
    refine Cq.loop (fun nn w ls => ∃ (i : Int), ∃ (m2 : Bool), ls = [(0, mv), (1, dv), (4, Value.bool m2), (5, Value.int .i64 dI), (6, Value.int .i64 i)] ∧ (0 ≤ i ∧ i ≤ (n : Int)) ∧ Own w B 3 dv ((dsAt f L G n d i.toNat).map (Value.int .i64)) ∧ (m2 = true → todo f L G n d i.toNat + 1 ≤ todo f L G n d 0) ∧ (m2 = false → ∀ j : Nat, j < i.toNat → disTo f L G (d + 1) (j : Int) = disTo f L G d (j : Int)) ∧ todo f L G n d i.toNat ≤ todo f L G n d 0 ∧ Ext wm w ∧ World.grownBy w0 w dv.ownBlock ∧ nn = ((n : Int) - i).toNat) _ _ ⟨0, false, rfl, by omega, by rw [show (0 : Int).toNat = 0 from rfl, dsAt_zero]; exact ho, fun h => absurd h (by decide), fun _ j hj => absurd hj (Nat.not_lt_zero _), Nat.le_refl _, E, hgo, rfl⟩ (.cons rfl (.cons rfl (.cons rfl (.cons rfl (.cons rfl (.nil)))))) ?_
    rintro nn wl2 ls ⟨i, m2, rfl, hi, ho, hmt, hmf, hml, E, hgo, rfl⟩
    have hs2 := Below.size E
    have hdl := dsAt_length (f := f) (L := L) (G := G) (n := n) d i.toNat
    have hdm := hdn hmore
    refine Cq.seq ?_
    refine Cq.seq ?_
    refine Cq.region ?_
    refine Sq.move .plain rfl rfl ?_
    refine Sq.move .plain rfl rfl ?_
    refine Sq.lenInts (Own.row ho) .plain rfl und52 rfl ?_
    refine Sq.lss .plain rfl rfl rfl ?_
    refine Sq.part (fun c3 => ?_) (fun c3 => ?_)
    · refine Sq.nil ?_
      refine Eq.next ?_
      refine Cq.thn rfl ?_
      refine Cq.skip ?_
      refine Eq.next ?_
      refine Cq.seq ?_
      refine Cq.block ?_
      refine Cq.seq ?_
      refine Cq.region ?_
      refine Sq.move .plain rfl rfl ?_
      refine Sq.move .plain rfl rfl ?_
      refine Sq.idxInts sl52 one3 (Own.row ho) .plain rfl rfl rfl .plain rfl rfl (by omega) (by omega) ?_
      refine Sq.lss .plain rfl rfl rfl ?_
      refine Sq.part (fun hlt => ?_) (fun hlt => ?_)
      · refine Sq.move .plain rfl rfl ?_
        refine Sq.move (.met rfl rfl rfl) rfl rfl ?_
        refine Sq.move (.met rfl rfl rfl) rfl rfl ?_
        obtain ⟨pq4, rq4, hpq4, hrq4⟩ := Read3.at (hm.ext E) (i := i) (by first | omega | (simp; omega)) (by first | omega | (simp; omega))
        refine Sq.val (.met rfl rfl rfl) rfl rfl (Still.at' sl85 hpq4 rfl rfl) ?_
        refine Sq.val (.met rfl rfl rfl) rfl rfl (Still.loadA one22 rfl hpq4.1) ?_
        refine Sq.move (.met rfl rfl rfl) rfl rfl ?_
        refine Sq.move (.met rfl rfl rfl) rfl rfl ?_
        refine Sq.sub (.met rfl rfl rfl) rfl rfl rfl (by omega) ?_
        refine Sq.call fn105 (.met rfl rfl rfl) rfl rfl (l4Near_c _ _ _ ((((List.range n).map fun (q : Nat) => L.map fun x => [f (q : Int) x]).getD i.toNat [])) (dsAt f L G n d i.toNat) (dI - 1) hrq4 (Own.row ho) (mv_ok hf hLl (by omega)) (by rw [moves_f (q := i) (by omega), List.length_map]; omega)) ?_
        rintro _ w6 ⟨rfl, e7⟩
        have hs8 := Below.size E
        have hs9 := Below.size e7
        replace E := E.trans e7
        replace hgo := grown_trans hgo (Ext.to_grown e7 _)
        replace ho := ho.ext e7
        replace hrq4 := hrq4.ext e7
        refine Sq.partB (fun hnr => ?_) (fun hnr => ?_)
        · refine Sq.pickT .plain rfl rfl rfl ?_
          refine Sq.nil ?_
          refine Eq.next ?_
          refine Cq.thn rfl ?_
          refine Cq.seq ?_
          refine Cq.region ?_
          refine Sq.move .plain rfl rfl ?_
          refine Sq.move .plain rfl rfl ?_
          refine Sq.move .plain rfl rfl ?_
          obtain ⟨p10, hp11o⟩ := Own.at ho (i := i) (by omega) (by first | (simp only [List.length_map]; omega) | (simp; omega))
          refine Sq.atO sl52 hp11o .plain rfl rfl rfl ?_
          refine Sq.storeO one3 ho hp11o .plain rfl rfl rfl (fun w12 g13 ho14 => ?_)
          have hs15 := World.grownBy.size g13
          replace E := E.owned ho g13 (by omega)
          replace hgo := grown_trans hgo g13
          replace ho := ho14
          refine Sq.nil ?_
          refine Eq.next ?_
          refine Cq.region ?_
          refine Sq.assign .plain rfl rfl ?_
          refine Sq.nil ?_
          refine Eq.end ?_
          refine Eq.next ?_
          refine Cq.region ?_
          refine Sq.move .plain rfl rfl ?_
          refine Sq.add .plain rfl rfl rfl (by omega) ?_
          refine Sq.assign .plain rfl rfl ?_
          refine Sq.nil ?_
          have hlt' : disTo f L G d i < 0 := by rw [dsAt_get (q := i) (by omega), if_neg (by omega)] at hlt; exact hlt
          have ei : ((i.toNat : Nat) : Int) = i := Int.toNat_of_nonneg hi.1
          rw [show dI - 1 = (d : Int) by omega, moves_f (q := i) (by omega), nearX_eq (n := n) hf i] at hnr
          have hk1 := disTo_new hlt' hnr
          have hk2 : disTo f L G (d + 1) ((i.toNat : Nat) : Int) = dI := by rw [ei, hk1]; omega
          have htl := todo_less (f := f) (L := L) (G := G) (d := d) (i := i.toNat) (n := n) (by omega) (by rw [ei]; exact hlt') (by rw [ei, hk1]; omega)
          refine Eq.round _ _ ⟨i + 1, true, rfl, by omega, by rw [toNat_succ hi.1, ← dsAt_set (by omega), List.map_set, hk2]; exact ho, fun _ => by rw [toNat_succ hi.1]; omega, fun h => absurd h (by decide), by rw [toNat_succ hi.1]; omega, E, hgo, rfl⟩ (by omega) (.cons rfl (.cons rfl (.cons rfl (.cons rfl (.cons rfl (.nil))))))
        · refine Sq.pickT .plain rfl rfl rfl ?_
          refine Sq.nil ?_
          refine Eq.next ?_
          refine Cq.els rfl ?_
          refine Cq.skip ?_
          refine Eq.end ?_
          refine Eq.next ?_
          refine Cq.region ?_
          refine Sq.move .plain rfl rfl ?_
          refine Sq.add .plain rfl rfl rfl (by omega) ?_
          refine Sq.assign .plain rfl rfl ?_
          refine Sq.nil ?_
          have hlt' : disTo f L G d i < 0 := by rw [dsAt_get (q := i) (by omega), if_neg (by omega)] at hlt; exact hlt
          have ei : ((i.toNat : Nat) : Int) = i := Int.toNat_of_nonneg hi.1
          rw [show dI - 1 = (d : Int) by omega, moves_f (q := i) (by omega), nearX_eq (n := n) hf i] at hnr
          have hk1 := disTo_far hlt' hnr
          have hk2 : disTo f L G (d + 1) ((i.toNat : Nat) : Int) = disTo f L G d ((i.toNat : Nat) : Int) := by rw [ei, hk1]; rcases disTo_cases (f := f) (L := L) (G := G) d i with h | ⟨z, h, _⟩; exact h.symm; omega
          refine Eq.round _ _ ⟨i + 1, m2, rfl, by omega, by rw [toNat_succ hi.1, dsAt_keep hk2]; exact ho, fun h => by rw [toNat_succ hi.1, todo_keep hk2]; exact hmt h, fun h => dis_more ei (hmf h) hk2 (toNat_succ hi.1), by rw [toNat_succ hi.1, todo_keep hk2]; exact hml, E, hgo, rfl⟩ (by omega) (.cons rfl (.cons rfl (.cons rfl (.cons rfl (.cons rfl (.nil))))))
      · refine Sq.move .plain rfl rfl ?_
        refine Sq.off rfl rfl rfl rfl rfl rfl ?_
        refine Sq.off rfl rfl rfl rfl rfl rfl ?_
        refine Sq.off rfl rfl rfl rfl rfl rfl ?_
        refine Sq.off rfl rfl rfl rfl rfl rfl ?_
        refine Sq.off rfl rfl rfl rfl rfl rfl ?_
        refine Sq.off rfl rfl rfl rfl rfl rfl ?_
        refine Sq.off rfl rfl rfl rfl rfl rfl ?_
        refine Sq.off rfl rfl rfl rfl rfl rfl ?_
        refine Sq.pickF .plain rfl rfl rfl ?_
        refine Sq.nil ?_
        refine Eq.next ?_
        refine Cq.els rfl ?_
        refine Cq.skip ?_
        refine Eq.end ?_
        refine Eq.next ?_
        refine Cq.region ?_
        refine Sq.move .plain rfl rfl ?_
        refine Sq.add .plain rfl rfl rfl (by omega) ?_
        refine Sq.assign .plain rfl rfl ?_
        refine Sq.nil ?_
        have hk1 : disTo f L G (d + 1) i = disTo f L G d i := disTo_old (by rw [dsAt_get (q := i) (by omega), if_neg (by omega)] at hlt; omega)
        have ei : ((i.toNat : Nat) : Int) = i := Int.toNat_of_nonneg hi.1
        have hk2 : disTo f L G (d + 1) ((i.toNat : Nat) : Int) = disTo f L G d ((i.toNat : Nat) : Int) := by rw [ei]; exact hk1
        refine Eq.round _ _ ⟨i + 1, m2, rfl, by omega, by rw [toNat_succ hi.1, dsAt_keep hk2]; exact ho, fun h => by rw [toNat_succ hi.1, todo_keep hk2]; exact hmt h, fun h => dis_more ei (hmf h) hk2 (toNat_succ hi.1), by rw [toNat_succ hi.1, todo_keep hk2]; exact hml, E, hgo, rfl⟩ (by omega) (.cons rfl (.cons rfl (.cons rfl (.cons rfl (.cons rfl (.nil))))))
    · refine Sq.nil ?_
      refine Eq.next ?_
      refine Cq.els rfl ?_
      refine Cq.exit ?_
      refine Eq.past ?_
      refine Eq.past ?_
      refine Eq.hit ?_
      refine Eq.end ?_
      refine Eq.next ?_
      refine Cq.region ?_
      refine Sq.move .plain rfl rfl ?_
      refine Sq.add .plain rfl rfl rfl (by omega) ?_
      refine Sq.assign .plain rfl rfl ?_
      refine Sq.nil ?_
      have en : i.toNat = n := by omega
      rw [en] at ho hmt hmf hml
      rw [dsAt_all (Nat.le_refl _)] at ho
      have etd := todo_round (f := f) (L := L) (G := G) (n := n) d n (Nat.le_refl _)
      rw [etd] at hmt hml
      have hst2 : m2 = false → dsOf f L G n (d + 1) = dsOf f L G n d := fun h => dsOf_same (hmf h)
      refine Eq.round _ _ ⟨d + 1, m2, _, rfl, ho, by omega, fun h => by have := hmt h; have := hdn hmore; omega, fun h => ⟨d, by have := hdn hmore; omega, hst2 h, dis_all (hmf h)⟩, E, hgo, rfl⟩ (by rw [if_pos hmore]; cases m2 with | true => (have := hmt rfl; simp; omega) | false => (simp; omega)) (.cons rfl (.cons rfl (.cons rfl (.cons rfl (.nil)))))
  · refine Sq.nil ?_
    refine Eq.next ?_
    refine Cq.els rfl ?_
    refine Cq.exit ?_
    refine Eq.past ?_
    refine Eq.past ?_
    refine Eq.hit ?_
    refine Eq.fall0 rfl ?_
    obtain ⟨d', e0, e1, e2⟩ := hst (by assumption)
    rw [e1] at ho
    exact ⟨rfl, ⟨d', e0, ho, e2⟩, hgo⟩

end Go.Proofs.Ytdkdpmmfebdeaaa
