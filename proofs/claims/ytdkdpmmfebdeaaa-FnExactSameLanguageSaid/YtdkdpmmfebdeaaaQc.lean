/-
  Walks, printed by a program out of the translation and a contract for each function; each step is one law.
-/
import Derived.Test.YtdkdpmmfebdeaaaQb
set_option linter.unusedSimpArgs false
set_option linter.unusedVariables false
namespace Go.Proofs.Ytdkdpmmfebdeaaa
open Go.RowKit

set_option maxHeartbeats 1000000 in
set_option maxRecDepth 100000 in
theorem l4Moves_c (w0 : World) (aa : List A) (av sv : Value) (ss : List Int) (lt kd gl : Int) (hN : NetA w0 27 52 3 4 av aa) (hS : Ints w0 3 sv ss) (r : Value) (tot : Int) (hr : Ints w0 3 r (szs aa)) (hok : NetOk aa) (ht : tot = total aa) (hal : 0 ≤ lt ∧ lt ≤ 63) : Ret Try.prog 88 #[Value.agg #[Value.slice none 0 0, av, sv, Value.int .i64 lt, Value.int .i64 kd, Value.int .i64 gl], r, Value.int .i64 tot] w0 (fun v w => Read3 w 22 52 3 v (movesN aa (letters lt)) ∧ Ext w0 w) := by
  have E := Ext.refl w0
  have hlen := hok.1
  have hzl := szs_length aa
  have htb := total_bd hok
  have hlet := letters_len6 lt
  refine Ret.of (args := [Value.agg #[Value.slice none 0 0, av, sv, Value.int .i64 lt, Value.int .i64 kd, Value.int .i64 gl], r, Value.int .i64 tot]) Try.func88 rfl rfl rfl ?_
  rintro _ rfl
  show Cq _ _ _ _ [(0, Value.agg #[Value.slice none 0 0, av, sv, Value.int .i64 lt, Value.int .i64 kd, Value.int .i64 gl]), (1, r), (2, Value.int .i64 tot)] _
  refine Cq.seq ?_
  refine Cq.region ?_
  refine Sq.box .plain rfl rfl (fun b1 w2 e3 hB4 hlo5 => ?_)
  have hd6 := Nat.le_trans (Below.size E) hlo5
  have hs7 := Below.size e3
  replace E := E.trans e3
  refine Sq.assign .plain rfl rfl ?_
  refine Sq.nil ?_
  refine Eq.next ?_
  refine Cq.seq ?_
  refine Cq.region ?_
  refine Sq.lit sl85 rfl rfl .plain rfl rfl one_nil (fun b8 w9 e10 hlo11 ho12 _ => ?_)
  have hs13 := Below.size e10
  replace E := E.trans e10
  replace hB4 := hB4.ext e10
  have ho3 := Own3.nil w9 w0.heap.size w9.heap.size 22 52 3 (ho12 w0.heap.size (by omega))
  refine Sq.assign .plain rfl rfl ?_
  refine Sq.nil ?_
  refine Eq.next ?_
  refine Cq.seq ?_
  refine Cq.region ?_
  refine Sq.fieldAddr fld70_3 .plain rfl rfl ?_
  refine Sq.loadB one3 .plain rfl rfl hB4 rfl ?_
  have hd18 := hB4.lt
  refine Sq.call fn52 .plain rfl rfl (l1Letters_c lt (by omega) _) ?_
  rintro v14 w15 ⟨hl17, e16⟩
  have hs19 := Below.size E
  have hs20 := Below.size e16
  replace E := E.trans e16
  replace hB4 := hB4.ext e16
  replace ho3 := ho3.ext e16
  refine Sq.assign .plain rfl rfl ?_
  refine Sq.nil ?_
  refine Eq.next ?_
  refine Cq.seq ?_
  refine Cq.seq ?_
  refine Cq.region ?_
  refine Sq.assign .plain rfl rfl ?_
  refine Sq.nil ?_
  refine Eq.next ?_
  refine Cq.block ?_
  refine Cq.loop (fun nn w ls => ∃ (i : Int), ∃ (ov : Value), ls = [(1, r), (2, Value.int .i64 tot), (3, Value.pointer (some ⟨b1, 0, none⟩)), (7, ov), (8, v14), (9, Value.int .i64 i)] ∧ (0 ≤ i ∧ i ≤ tot) ∧ Own3 w w0.heap.size w.heap.size 22 52 3 ov ((List.range i.toNat).map fun (q : Nat) => (letters lt).map fun x => [fN aa (q : Int) x]) ∧ Ext w0 w ∧ Blk w b1 70 [Value.slice none 0 0, av, sv, Value.int .i64 lt, Value.int .i64 kd, Value.int .i64 gl] ∧ Own w w9.heap.size 3 v14 ((letters lt).map (Value.int .i64)) ∧ nn = (tot - i).toNat) _ _ ⟨0, _, rfl, by omega, Own3.now ho3, E, hB4, hl17, rfl⟩ (.cons rfl (.cons rfl (.cons rfl (.cons rfl (.cons rfl (.cons rfl (.nil))))))) ?_
  rintro nn wl1 ls ⟨i, ov, rfl, hi, ho3, E, hB4, hl17, rfl⟩
  have hs21 := Below.size E
  have hm3 := rfl (a := ((List.range i.toNat).map fun (q : Nat) => (letters lt).map fun x => [fN aa (q : Int) x]))
  refine Cq.seq ?_
  refine Cq.seq ?_
  refine Cq.region ?_
  refine Sq.move .plain rfl rfl ?_
  refine Sq.move .plain rfl rfl ?_
  refine Sq.lss .plain rfl rfl rfl ?_
  refine Sq.part (fun c22 => ?_) (fun c22 => ?_)
  · refine Sq.nil ?_
    refine Eq.next ?_
    refine Cq.thn rfl ?_
    refine Cq.skip ?_
    refine Eq.next ?_
    refine Cq.seq ?_
    refine Cq.block ?_
    refine Cq.seq ?_
    refine Cq.region ?_
    refine Sq.move .plain rfl rfl ?_
    refine Sq.move .plain rfl rfl ?_
    have hd27 := hB4.lt
    refine Sq.call fn90 .plain rfl rfl (l4Decode_c _ (szs aa) _ (hr.ext E) i (szs_ok hok) (by omega)) ?_
    rintro v23 w24 ⟨ho26, e25⟩
    have hs28 := Below.size E
    have hs29 := Below.size e25
    replace E := E.trans e25
    replace hB4 := hB4.ext e25
    replace hl17 := hl17.ext e25
    replace ho3 := ho3.ext e25
    refine Sq.assign .plain rfl rfl ?_
    refine Sq.nil ?_
    refine Eq.next ?_
    refine Cq.seq ?_
    refine Cq.region ?_
    refine Sq.lit sl22 rfl rfl .plain rfl rfl one_nil (fun b30 w31 e32 hlo33 ho34 _ => ?_)
    have hs35 := Below.size e32
    replace E := E.trans e32
    replace hB4 := hB4.ext e32
    replace hl17 := hl17.ext e32
    replace ho3 := ho3.ext e32
    replace ho26 := ho26.ext e32
    have hor := OwnRows.nil' w31 w24.heap.size w31.heap.size 52 3 (ho34 w24.heap.size (Nat.le_refl _))
    refine Sq.assign .plain rfl rfl ?_
    refine Sq.nil ?_
    refine Eq.next ?_
    refine Cq.seq ?_
    refine Cq.seq ?_
    refine Cq.region ?_
    refine Sq.assign .plain rfl rfl ?_
    refine Sq.nil ?_
    refine Eq.next ?_
    refine Cq.block ?_
    refine Cq.loop (fun nn w ls => ∃ (m : Int), ∃ (rv : Value), ls = [(1, r), (2, Value.int .i64 tot), (3, Value.pointer (some ⟨b1, 0, none⟩)), (7, ov), (8, v14), (9, Value.int .i64 i), (10, v23), (11, rv), (12, Value.int .i64 m)] ∧ (0 ≤ m ∧ m ≤ (letters lt).length) ∧ (w24.heap.size ≤ w.heap.size) ∧ OwnRows w w24.heap.size w.heap.size 52 3 rv (((letters lt).take m.toNat).map fun x => [fN aa i x]) ∧ Own3 w w0.heap.size wl1.heap.size 22 52 3 ov ((List.range i.toNat).map fun (q : Nat) => (letters lt).map fun x => [fN aa (q : Int) x]) ∧ Ext w0 w ∧ Blk w b1 70 [Value.slice none 0 0, av, sv, Value.int .i64 lt, Value.int .i64 kd, Value.int .i64 gl] ∧ Own w w9.heap.size 3 v14 ((letters lt).map (Value.int .i64)) ∧ Own w wl1.heap.size 3 v23 ((decL (szs aa) i).map (Value.int .i64)) ∧ nn = (((letters lt).length : Int) - m).toNat) _ _ ⟨0, _, rfl, by omega, by omega, hor, ho3, E, hB4, hl17, ho26, rfl⟩ (.cons rfl (.cons rfl (.cons rfl (.cons rfl (.cons rfl (.cons rfl (.cons rfl (.cons rfl (.cons rfl (.nil)))))))))) ?_
    rintro nn wl2 ls ⟨m, rv, rfl, hm, hsz, hor, ho3, E, hB4, hl17, ho26, rfl⟩
    have hs36 := Below.size E
    refine Cq.seq ?_
    refine Cq.seq ?_
    refine Cq.region ?_
    refine Sq.move .plain rfl rfl ?_
    refine Sq.move .plain rfl rfl ?_
    refine Sq.lenInts (Own.row hl17) .plain rfl und52 rfl ?_
    refine Sq.lss .plain rfl rfl rfl ?_
    refine Sq.part (fun c37 => ?_) (fun c37 => ?_)
    · refine Sq.nil ?_
      refine Eq.next ?_
      refine Cq.thn rfl ?_
      refine Cq.skip ?_
      refine Eq.next ?_
      refine Cq.seq ?_
      refine Cq.block ?_
      have hlx := letters_at lt (k := m.toNat) (by omega)
      obtain ⟨phpL, hpL⟩ := Ints.at (Own.row hl17) (i := m) (by omega) (by omega)
      refine Cq.drawS 11 (fun w' => Blk w' b1 70 [Value.slice none 0 0, av, sv, Value.int .i64 lt, Value.int .i64 kd, Value.int .i64 gl] ∧ At w' 3 v14 m phpL (.int .i64 ((letters lt).getD m.toNat 0))) mixed (⟨hB4, hpL⟩) (fun w38 e39 hS => ?_)
      clear hS
      have hs40 := Below.size e39
      replace E := E.trans e39
      replace hB4 := hB4.ext e39
      replace hl17 := hl17.ext e39
      replace ho26 := ho26.ext e39
      replace hor := hor.ext e39
      replace ho3 := ho3.ext e39
      replace hpL := hpL.ext e39
      have E_w38 := E
      have hB4_w38 := hB4
      have hl17_w38 := hl17
      have ho26_w38 := ho26
      have hor_w38 := hor
      have ho3_w38 := ho3
      have hpL_w38 := hpL
      refine Gq.st 0 rfl (by kernel_rfl) rfl .plain rfl (fun _ _ _ h => h) ⟨hB4, hpL⟩ (fun w' x => Still.move rfl) ?_
      refine Gq.st 1 rfl (by kernel_rfl) rfl .plain rfl (fun _ _ _ h => h) ⟨hB4, hpL⟩ (fun w' x => Still.loadAgg agg70 rfl x.1 rfl) ?_
      refine Gq.st 2 rfl (by kernel_rfl) rfl .plain rfl (fun _ _ _ h => h) ⟨hB4, hpL⟩ (fun w' x => Still.move rfl) ?_
      refine Gq.st 3 rfl (by kernel_rfl) rfl .plain rfl (fun _ _ _ h => h) ⟨hB4, hpL⟩ (fun w' x => Still.move rfl) ?_
      refine Gq.st 4 rfl (by kernel_rfl) rfl .plain rfl (fun _ _ _ h => h) ⟨hB4, hpL⟩ (fun w' x => Still.move rfl) ?_
      refine Gq.st 5 rfl (by kernel_rfl) rfl .plain rfl (fun _ _ _ h => h) ⟨hB4, hpL⟩ (fun w' x => Still.move rfl) ?_
      refine Gq.st 6 rfl (by kernel_rfl) rfl .plain rfl (fun _ _ _ h => h) ⟨hB4, hpL⟩ (fun w' x => Still.at' sl52 hpL rfl rfl) ?_
      refine Gq.st 7 rfl (by kernel_rfl) rfl .plain rfl (fun _ _ _ h => h) ⟨hB4, hpL⟩ (fun w' x => Still.loadA one3 rfl (x.2).1) ?_
      refine Gq.one 8 rfl (by kernel_rfl) ?_
      have hd45 := hB4.lt
      refine Sq.call fn103 .plain rfl rfl (l4Nexts_c _ aa av sv ss lt kd gl (hN.ext E) (hS.ext E) _ _ ((decL (szs aa) i)) (hr.ext E) (Own.row ho26) hok (decL_ok (szs_ok hok) _) (by rw [decL_length, szs_length]) (((letters lt).getD m.toNat 0)) (by omega)) ?_
      rintro v41 w42 ⟨ho44, e43⟩
      have hs46 := Below.size E
      have hs47 := Below.size e43
      replace E := E.trans e43
      replace hB4 := hB4.ext e43
      replace hl17 := hl17.ext e43
      replace ho26 := ho26.ext e43
      replace hor := hor.ext e43
      replace ho3 := ho3.ext e43
      replace hpL := hpL.ext e43
      replace ho44 : Own w42 w38.heap.size 3 v41 (([fN aa i (((letters lt).getD m.toNat 0))] : List Int).map (Value.int .i64)) := ho44
      refine Sq.nil ?_
      refine Eq.goes (fun _ => ⟨hB4, hpL⟩) ?_
      refine Gq.one 9 rfl (by kernel_rfl) ?_
      refine Sq.lit sl22 rfl rfl .plain rfl rfl (one_cons (Row.one (Own.row ho44)) one_nil) (fun b48 w49 e50 hlo51 ho52 _ => ?_)
      replace ho52 := ho52 w42.heap.size (Nat.le_refl _)
      have hs54 := Below.size e50
      replace E := E.trans e50
      replace hB4 := hB4.ext e50
      replace hl17 := hl17.ext e50
      replace ho26 := ho26.ext e50
      replace hor := hor.ext e50
      replace ho3 := ho3.ext e50
      replace hpL := hpL.ext e50
      replace ho44 := ho44.ext e50
      refine Sq.nil ?_
      refine Eq.goes (fun _ => ⟨hB4, hpL⟩) ?_
      refine Gq.one 10 rfl (by kernel_rfl) ?_
      obtain ⟨rs59, q60, q61, q62⟩ := OwnRows.open hor (by decide)
      have q62x := Ext.refl w49
      refine Sq.app sl22 q60 (by omega) (Own.row ho52) (one_cons (Row.one (Own.row ho44)) one_nil) (by rw [q61]; simp; omega) .plain rfl rfl rfl rfl (fun v55 w56 ho58 g57 => ?_)
      have hs63 := g57.size
      have ho58r := q62 _ (([fN aa i (((letters lt).getD m.toNat 0))] : List Int)) _ _ _ (Ext.refl _) (Own.mono ho44 (by omega)) (by omega) ho58 g57
      replace E := E.owned q60 g57 (by omega)
      replace hB4 := hB4.owned q60 g57 (by decide)
      replace hl17 := hl17.owned q60 g57 (by decide)
      replace ho26 := ho26.owned q60 g57 (by decide)
      replace ho3 := ho3.apart q60 g57 (by omega) (by decide)
      replace hpL := hpL.owned q60 g57 (by decide)
      replace ho44 := ho44.owned q60 g57 (by decide)
      refine Sq.nil ?_
      refine Eq.goes (fun _ => ⟨hB4, hpL⟩) ?_
      refine Gq.one 11 rfl (by kernel_rfl) ?_
      refine Sq.assign .plain rfl rfl ?_
      refine Sq.nil ?_
      refine Eq.goes (fun h => absurd h (by decide)) ?_
      refine Gq.done (by kernel_rfl) ?_
      refine Eq.end ?_
      refine Eq.next ?_
      refine Cq.region ?_
      refine Sq.move .plain rfl rfl ?_
      refine Sq.add .plain rfl rfl rfl (by omega) ?_
      refine Sq.assign .plain rfl rfl ?_
      refine Sq.nil ?_
      have e2 := toNat_succ hm.1
      refine Eq.round _ _ ⟨m + 1, _, rfl, by omega, by omega, by rw [e2, take_snoc 0 (by omega), List.map_append]; exact OwnRows.now ho58r, ho3, E, hB4, hl17, ho26, rfl⟩ (by omega) (.cons rfl (.cons rfl (.cons rfl (.cons rfl (.cons rfl (.cons rfl (.cons rfl (.cons rfl (.cons rfl (.nil))))))))))
    · refine Sq.nil ?_
      refine Eq.next ?_
      refine Cq.els rfl ?_
      refine Cq.exit ?_
      refine Eq.past ?_
      refine Eq.past ?_
      refine Eq.hit ?_
      refine Eq.next ?_
      refine Cq.region ?_
      refine Sq.move .plain rfl rfl ?_
      refine Sq.move .plain rfl rfl ?_
      obtain ⟨rs3, hq1, hq2, hq3⟩ := Own3.open ho3 (by decide) (by decide)
      have hU := RowsU.of (OwnRows.now hor)
      have hx0 := Ext.refl wl2
      refine Sq.lit sl85 rfl rfl .plain rfl rfl (one_cons (Rows.one (OwnRows.rows hor)) one_nil) (fun b64 w65 e66 hlo67 ho68 _ => ?_)
      have hs73 := Below.size e66
      replace E := E.trans e66
      replace hB4 := hB4.ext e66
      replace hl17 := hl17.ext e66
      replace ho26 := ho26.ext e66
      replace hor := hor.ext e66
      replace hq1 := hq1.ext e66
      replace hx0 := hx0.trans e66
      refine Sq.app sl85 hq1 (by omega) (Own.row (ho68 _ (Nat.le_refl _))) (one_cons (Rows.one (OwnRows.rows hor)) one_nil) (by rw [hq2, hm3]; simp only [List.length_map, List.length_range, List.length_cons, List.length_nil]; omega) .plain rfl rfl rfl rfl (fun v69 w70 ho72 g71 => ?_)
      have hs74 := World.grownBy.size g71
      have ho3 := hq3 _ _ _ _ _ hx0 ((hU.ext hx0).up (Below.size hx0)) (by omega) ho72 g71
      replace E := E.owned hq1 g71 (by omega)
      replace hB4 := hB4.owned hq1 g71 (by decide)
      replace hl17 := hl17.owned hq1 g71 (by decide)
      refine Sq.assign .plain rfl rfl ?_
      refine Sq.nil ?_
      refine Eq.end ?_
      refine Eq.next ?_
      refine Cq.region ?_
      refine Sq.move .plain rfl rfl ?_
      refine Sq.add .plain rfl rfl rfl (by omega) ?_
      refine Sq.assign .plain rfl rfl ?_
      refine Sq.nil ?_
      have e1 := toNat_succ hi.1
      have em : m.toNat = (letters lt).length := by omega
      refine Eq.round _ _ ⟨i + 1, _, rfl, by omega, by rw [e1, List.range_succ, List.map_append, List.map_cons, List.map_nil, Int.toNat_of_nonneg hi.1]; rw [List.take_of_length_le (by omega)] at ho3; exact ho3, E, hB4, hl17, rfl⟩ (by omega) (.cons rfl (.cons rfl (.cons rfl (.cons rfl (.cons rfl (.cons rfl (.nil)))))))
  · refine Sq.nil ?_
    refine Eq.next ?_
    refine Cq.els rfl ?_
    refine Cq.exit ?_
    refine Eq.past ?_
    refine Eq.past ?_
    refine Eq.hit ?_
    refine Eq.next ?_
    refine Cq.seq ?_
    refine Cq.region ?_
    refine Sq.move .plain rfl rfl ?_
    refine Sq.assign .plain rfl rfl ?_
    refine Sq.nil ?_
    refine Eq.next ?_
    refine Cq.ret ?_
    refine Eq.ret1 rfl rfl ?_
    have e3 : i.toNat = total aa := by omega
    rw [e3] at ho3
    exact ⟨Own3.read ho3, E⟩

end Go.Proofs.Ytdkdpmmfebdeaaa
