/-
  The texts of this proof, joined (wip/merge.py): the calculus of slots, plain mathematics, walks.
-/
import Derived.Test.YtdejmfkpohgamaaGe5
set_option linter.unusedSimpArgs false
set_option linter.unusedVariables false
namespace Go.Proofs.Ytdejmfkpohgamaa
open Go.RowKit
set_option maxRecDepth 100000 in
theorem l4Sizes_c (w0 : World) (aa : List A) (av sv : Value) (ss : List Int) (lt kd gl : Int) (hN : NetA w0 26 56 3 4 av aa) (hS : Ints w0 3 sv ss) (hlen : aa.length ≤ 2) : Ret Try.prog 118 #[Value.agg #[Value.slice none 0 0, av, sv, Value.int .i64 lt, Value.int .i64 kd, Value.int .i64 gl]] w0 (fun v w => Own w w0.heap.size 3 v ((szs aa).map (Value.int .i64)) ∧ Ext w0 w) := by
  have E := Ext.refl w0
  obtain ⟨BN, rows, hW, hrl, hat⟩ := id hN
  refine Ret.of (args := [Value.agg #[Value.slice none 0 0, av, sv, Value.int .i64 lt, Value.int .i64 kd, Value.int .i64 gl]]) Try.func118 rfl rfl rfl ?_
  rintro _ rfl
  show Cq _ _ _ _ [(0, Value.agg #[Value.slice none 0 0, av, sv, Value.int .i64 lt, Value.int .i64 kd, Value.int .i64 gl])] _
  refine Cq.seq ?_
  refine Cq.region ?_
  refine Sq.box .plain rfl rfl (fun b1 w2 e3 hB4 hlo5 => ?_)
  have hd6 := Nat.le_trans (Below.size E) hlo5
  have hs7 := Below.size e3
  replace E := E.trans e3
  replace hW := hW.ext e3
  refine Sq.assign .plain rfl rfl ?_
  refine Sq.nil ?_
  refine Eq.next ?_
  refine Cq.seq ?_
  refine Cq.region ?_
  refine Sq.lit sl56 rfl rfl .plain rfl rfl one_nil (fun b8 w9 e10 hlo11 ho12 _ => ?_)
  replace ho12 := ho12 w2.heap.size (Nat.le_refl _)
  have hs14 := Below.size e10
  replace E := E.trans e10
  replace hW := hW.ext e10
  replace hB4 := hB4.ext e10
  refine Sq.assign .plain rfl rfl ?_
  refine Sq.nil ?_
  refine Eq.next ?_
  refine Cq.seq ?_
  refine Cq.seq ?_
  refine Cq.region ?_
  refine Sq.assign .plain rfl rfl ?_
  refine Sq.nil ?_
  refine Eq.next ?_
  refine Cq.block ?_
  refine Cq.loop (fun nn w ls => ∃ (k : Int), ∃ (ov : Value), ls = [(1, Value.pointer (some ⟨b1, 0, none⟩)), (3, ov), (4, Value.int .i64 k)] ∧ k = 0 ∧ Own w w0.heap.size 3 ov ([] : List Value) ∧ Ext w0 w ∧ Blk w b1 105 [Value.slice none 0 0, av, sv, Value.int .i64 lt, Value.int .i64 kd, Value.int .i64 gl] ∧ Wid w BN 26 3 av rows ∧ nn = k.toNat) _ _ ⟨0, _, rfl, rfl, Own.mono ho12 (by omega), E, hB4, hW, rfl⟩ (.cons rfl (.cons rfl (.cons rfl (.nil)))) ?_
  rintro nn wl1 ls ⟨k, ov, rfl, hk, ho, E, hB4, hW, rfl⟩
  have hs15 := Below.size E
  refine Cq.seq ?_
  refine Cq.seq ?_
  refine Cq.region ?_
  refine Sq.move .plain rfl rfl ?_
  refine Sq.fieldAddr fld105_0 .plain rfl rfl ?_
  refine Sq.loadB one103 .plain rfl rfl hB4 rfl ?_
  refine Sq.len .plain rfl und103 rfl ?_
  refine Sq.lss .plain rfl rfl rfl ?_
  refine Sq.part (fun c16 => ?_) (fun c16 => ?_)
  · refine Sq.nil ?_
    refine Eq.next ?_
    refine Cq.thn rfl ?_
    refine Cq.skip ?_
    refine Eq.next ?_
    refine Cq.seq ?_
    refine Cq.block ?_
    refine Cq.region ?_
    exfalso
    omega
  refine Sq.nil ?_
  refine Eq.next ?_
  refine Cq.els rfl ?_
  refine Cq.exit ?_
  refine Eq.past ?_
  refine Eq.past ?_
  refine Eq.hit ?_
  refine Eq.next ?_
  refine Cq.seq ?_
  refine Cq.seq ?_
  refine Cq.region ?_
  refine Sq.assign .plain rfl rfl ?_
  refine Sq.nil ?_
  refine Eq.next ?_
  refine Cq.block ?_
  refine Cq.loop (fun nn w ls => ∃ (k : Int), ∃ (ov : Value), ls = [(1, Value.pointer (some ⟨b1, 0, none⟩)), (3, ov), (5, Value.int .i64 k)] ∧ (0 ≤ k ∧ k ≤ aa.length) ∧ Own w w0.heap.size 3 ov (((szs aa).take k.toNat).map (Value.int .i64)) ∧ Ext w0 w ∧ Blk w b1 105 [Value.slice none 0 0, av, sv, Value.int .i64 lt, Value.int .i64 kd, Value.int .i64 gl] ∧ Wid w BN 26 3 av rows ∧ nn = ((aa.length : Int) - k).toNat) _ _ ⟨0, _, rfl, by omega, Own.mono ho (by omega), E, hB4, hW, rfl⟩ (.cons rfl (.cons rfl (.cons rfl (.nil)))) ?_
  rintro nn wl2 ls ⟨k, ov, rfl, hk, ho, E, hB4, hW, rfl⟩
  have hs17 := Below.size E
  refine Cq.seq ?_
  refine Cq.seq ?_
  refine Cq.region ?_
  refine Sq.move .plain rfl rfl ?_
  refine Sq.fieldAddr fld105_1 .plain rfl rfl ?_
  refine Sq.loadB one102 .plain rfl rfl hB4 rfl ?_
  refine Sq.lenWid hW .plain rfl und102 rfl ?_
  rw [hrl]
  refine Sq.lss .plain rfl rfl rfl ?_
  refine Sq.part (fun c18 => ?_) (fun c18 => ?_)
  · refine Sq.nil ?_
    refine Eq.next ?_
    refine Cq.thn rfl ?_
    refine Cq.skip ?_
    refine Eq.next ?_
    refine Cq.seq ?_
    refine Cq.block ?_
    refine Cq.region ?_
    refine Sq.move .plain rfl rfl ?_
    refine Sq.fieldAddr fld105_1 .plain rfl rfl ?_
    refine Sq.loadB one102 .plain rfl rfl hB4 rfl ?_
    refine Sq.move .plain rfl rfl ?_
    obtain ⟨nxq19, acq19, hrq19, hnxq19, hacq19⟩ := hat k.toNat (aa.getD k.toNat zeroA) (at_getD (by omega))
    obtain ⟨gq19, cq19, hvq19, hlq19⟩ := Wid.rowAt hW (i := k) (by omega) hrq19
    refine Sq.val .plain rfl rfl (Still.ixV slw102 hvq19 rfl rfl (by omega)) ?_
    refine Sq.fieldAddr fld26_1 .plain rfl rfl ?_
    refine Sq.val .plain rfl rfl (Still.load one23 rfl (Wid.cellR hvq19 hW (by omega) hrq19 (j := 1) (by decide))) ?_
    refine Sq.lenRows (hnxq19.ext E) .plain rfl und23 rfl ?_
    refine Sq.app1 sl56 ho (by omega) (by rw [List.length_map, List.length_take]; omega) .plain rfl rfl rfl rfl rfl rfl rfl (fun v20 w21 ho23 g22 _ => ?_)
    have hs24 := g22.size
    replace E := E.owned ho g22 (by omega)
    replace hB4 := hB4.owned ho g22 (by decide)
    replace hW := hW.owned ho g22 (by decide)
    refine Sq.assign .plain rfl rfl ?_
    refine Sq.nil ?_
    refine Eq.end ?_
    refine Eq.next ?_
    refine Cq.region ?_
    refine Sq.move .plain rfl rfl ?_
    refine Sq.add .plain rfl rfl rfl (by omega) ?_
    refine Sq.assign .plain rfl rfl ?_
    refine Sq.nil ?_
    have e1 := toNat_succ hk.1
    refine Eq.round _ _ ⟨k + 1, _, rfl, by omega, by rw [e1, take_snoc 0 (by rw [szs_length]; omega), List.map_append, szs_at (by omega)]; exact ho23, E, hB4, hW, rfl⟩ (by omega) (.cons rfl (.cons rfl (.cons rfl (.nil))))
  refine Sq.nil ?_
  refine Eq.next ?_
  refine Cq.els rfl ?_
  refine Cq.exit ?_
  refine Eq.past ?_
  refine Eq.past ?_
  refine Eq.hit ?_
  refine Eq.next ?_
  refine Cq.seq ?_
  refine Cq.region ?_
  refine Sq.move .plain rfl rfl ?_
  refine Sq.assign .plain rfl rfl ?_
  refine Sq.nil ?_
  refine Eq.next ?_
  refine Cq.ret ?_
  refine Eq.ret1 rfl rfl ?_
  rw [List.take_of_length_le (by rw [szs_length]; omega)] at ho
  exact ⟨ho, E⟩
set_option maxRecDepth 100000 in
theorem l4Decode_c (w0 : World) (ss : List Int) (r : Value) (hr : Ints w0 3 r ss) (q : Int) (hs : SzOk ss) (hq : 0 ≤ q ∧ q ≤ 1000) : Ret Try.prog 121 #[r, Value.int .i64 q] w0 (fun v w => Own w w0.heap.size 3 v ((decL ss q).map (Value.int .i64)) ∧ Ext w0 w) := by
  have E := Ext.refl w0
  have hsl := hs.1
  refine Ret.of (args := [r, Value.int .i64 q]) Try.func121 rfl rfl rfl ?_
  rintro _ rfl
  show Cq _ _ _ _ [(0, r), (1, Value.int .i64 q)] _
  refine Cq.seq ?_
  refine Cq.region ?_
  refine Sq.assign .plain rfl rfl ?_
  refine Sq.nil ?_
  refine Eq.next ?_
  refine Cq.seq ?_
  refine Cq.region ?_
  refine Sq.move .plain rfl rfl ?_
  refine Sq.lenInts (hr.ext E) .plain rfl und56 rfl ?_
  refine Sq.make sl56 .plain rfl rfl rfl rfl (by omega) (fun b1 w2 e3 hlo4 hB5 => ?_)
  replace hB5 := hB5 w0.heap.size (Nat.le_refl _)
  have hs6 := Below.size e3
  replace E := E.trans e3
  refine Sq.assign .plain rfl rfl ?_
  refine Sq.nil ?_
  refine Eq.next ?_
  refine Cq.seq ?_
  refine Cq.seq ?_
  refine Cq.region ?_
  refine Sq.move .plain rfl rfl ?_
  refine Sq.lenInts (hr.ext E) .plain rfl und56 rfl ?_
  refine Sq.sub .plain rfl rfl rfl (by omega) ?_
  refine Sq.assign .plain rfl rfl ?_
  refine Sq.nil ?_
  refine Eq.next ?_
  refine Cq.block ?_
  refine Cq.loop (fun nn w ls => ∃ (i : Int), ∃ (qv : Int), ls = [(0, r), (1, Value.int .i64 qv), (5, Value.slice (some ⟨b1, 0, none⟩) (List.length ss : Int).toNat (List.length ss : Int).toNat), (6, Value.int .i64 i)] ∧ (-1 ≤ i ∧ i < ss.length) ∧ qv = q / prodFrom ss (i + 1).toNat ∧ Own w w0.heap.size 3 (Value.slice (some ⟨b1, 0, none⟩) (List.length ss : Int).toNat (List.length ss : Int).toNat) ((decTo ss q (i + 1).toNat).map (Value.int .i64)) ∧ Ext w0 w ∧ nn = (i + 1).toNat) _ _ ⟨(List.length ss : Int) - 1, q, rfl, by omega, by rw [prodFrom_end (by omega), Int.ediv_one], by rw [decTo_all q (by omega), List.map_replicate]; exact hB5, E, rfl⟩ (.cons rfl (.cons rfl (.cons rfl (.cons rfl (.nil))))) ?_
  rintro nn wl1 ls ⟨i, qv, rfl, hi, hqv, ho, E, rfl⟩
  have hs7 := Below.size E
  have hnb := node_bd hs hq (i + 1).toNat
  rw [← hqv] at hnb
  have hdl := decTo_length ss q (i + 1).toNat
  have hsi : 0 ≤ i → 1 ≤ ss.getD i.toNat 0 ∧ ss.getD i.toNat 0 ≤ 12 := fun h => hs.2 _ (by omega)
  refine Cq.seq ?_
  refine Cq.seq ?_
  refine Cq.region ?_
  refine Sq.move .plain rfl rfl ?_
  refine Sq.geq .plain rfl rfl rfl ?_
  refine Sq.part (fun c8 => ?_) (fun c8 => ?_)
  · refine Sq.nil ?_
    refine Eq.next ?_
    refine Cq.thn rfl ?_
    refine Cq.skip ?_
    refine Eq.next ?_
    refine Cq.seq ?_
    refine Cq.block ?_
    refine Cq.seq ?_
    refine Cq.region ?_
    refine Sq.move .plain rfl rfl ?_
    refine Sq.move .plain rfl rfl ?_
    refine Sq.move .plain rfl rfl ?_
    refine Sq.move .plain rfl rfl ?_
    refine Sq.move .plain rfl rfl ?_
    refine Sq.idxInts sl56 one3 (hr.ext E) .plain rfl rfl rfl .plain rfl rfl (by omega) (by omega) ?_
    refine Sq.rem .plain rfl rfl rfl (by have := hsi (by omega); omega) ?_
    obtain ⟨p9, hp10o⟩ := Own.at ho (i := i) (by omega) (by first | (simp only [List.length_map]; omega) | (simp; omega))
    refine Sq.atO sl56 hp10o .plain rfl rfl rfl ?_
    refine Sq.storeO one3 ho hp10o .plain rfl rfl rfl (fun w11 g12 ho13 => ?_)
    have hs14 := World.grownBy.size g12
    replace E := E.owned ho g12 (by omega)
    replace ho := ho13
    refine Sq.nil ?_
    refine Eq.next ?_
    refine Cq.region ?_
    refine Sq.move .plain rfl rfl ?_
    refine Sq.move .plain rfl rfl ?_
    refine Sq.move .plain rfl rfl ?_
    refine Sq.idxInts sl56 one3 (hr.ext E) .plain rfl rfl rfl .plain rfl rfl (by omega) (by omega) ?_
    refine Sq.quo .plain rfl rfl rfl (by have := hsi (by omega); omega) ?_
    refine Sq.assign .plain rfl rfl ?_
    refine Sq.nil ?_
    refine Eq.end ?_
    refine Eq.next ?_
    refine Cq.region ?_
    refine Sq.move .plain rfl rfl ?_
    refine Sq.sub .plain rfl rfl rfl (by omega) ?_
    refine Sq.assign .plain rfl rfl ?_
    refine Sq.nil ?_
    have e1 : (i + 1).toNat = i.toNat + 1 := toNat_succ (by omega)
    have e2 : (i - 1 + 1).toNat = i.toNat := by omega
    refine Eq.round _ _ ⟨i - 1, _, rfl, by omega, by rw [e2, hqv, e1, prod_node (by omega) hs], by rw [e2, ← decTo_step (q := q) (m := i.toNat) (by omega), List.map_set, ← e1, ← hqv]; exact ho, E, rfl⟩ (by omega) (.cons rfl (.cons rfl (.cons rfl (.cons rfl (.nil)))))
  refine Sq.nil ?_
  refine Eq.next ?_
  refine Cq.els rfl ?_
  refine Cq.exit ?_
  refine Eq.past ?_
  refine Eq.past ?_
  refine Eq.hit ?_
  refine Eq.next ?_
  refine Cq.seq ?_
  refine Cq.region ?_
  refine Sq.move .plain rfl rfl ?_
  refine Sq.assign .plain rfl rfl ?_
  refine Sq.nil ?_
  refine Eq.next ?_
  refine Cq.ret ?_
  refine Eq.ret1 rfl rfl ?_
  have e3 : (i + 1).toNat = 0 := by omega
  rw [e3, decTo_zero] at ho
  exact ⟨ho, E⟩
set_option maxRecDepth 100000 in
theorem l4Encode_c (w0 : World) (ss st : List Int) (r u : Value) (hr : Ints w0 3 r ss) (hu : Ints w0 3 u st) (hs : SzOk ss) (hst : StOk ss st) (hl : st.length = ss.length) : Ret Try.prog 123 #[r, u] w0 (fun v w => v = .int .i64 (encTo ss st ss.length) ∧ Ext w0 w) := by
  have E := Ext.refl w0
  have hsl := hs.1
  refine Ret.of (args := [r, u]) Try.func123 rfl rfl rfl ?_
  rintro _ rfl
  show Cq _ _ _ _ [(0, r), (1, u)] _
  refine Cq.seq ?_
  refine Cq.region ?_
  refine Sq.assign .plain rfl rfl ?_
  refine Sq.nil ?_
  refine Eq.next ?_
  refine Cq.seq ?_
  refine Cq.region ?_
  refine Sq.assign .plain rfl rfl ?_
  refine Sq.nil ?_
  refine Eq.next ?_
  refine Cq.seq ?_
  refine Cq.seq ?_
  refine Cq.region ?_
  refine Sq.assign .plain rfl rfl ?_
  refine Sq.nil ?_
  refine Eq.next ?_
  refine Cq.block ?_
  refine Cq.loop (fun nn w ls => ∃ (k : Int), ls = [(0, r), (1, u), (5, Value.int .i64 (encTo ss st k.toNat)), (6, Value.int .i64 k)] ∧ (0 ≤ k ∧ k ≤ ss.length) ∧ Ext w0 w ∧ Ints w 3 r ss ∧ Ints w 3 u st ∧ nn = ((ss.length : Int) - k).toNat) _ _ ⟨0, rfl, by omega, E, hr, hu, rfl⟩ (.cons rfl (.cons rfl (.cons rfl (.cons rfl (.nil))))) ?_
  rintro nn wl1 ls ⟨k, rfl, hk, E, hr, hu, rfl⟩
  have hs1 := Below.size E
  refine Cq.seq ?_
  refine Cq.seq ?_
  refine Cq.region ?_
  refine Sq.move .plain rfl rfl ?_
  refine Sq.move .plain rfl rfl ?_
  refine Sq.lenInts hr .plain rfl und56 rfl ?_
  refine Sq.lss .plain rfl rfl rfl ?_
  refine Sq.part (fun c2 => ?_) (fun c2 => ?_)
  · refine Sq.nil ?_
    refine Eq.next ?_
    refine Cq.thn rfl ?_
    refine Cq.skip ?_
    refine Eq.next ?_
    refine Cq.seq ?_
    refine Cq.block ?_
    obtain ⟨phpA, hpA⟩ := Ints.at hr (i := k) (by omega) (by omega)
    obtain ⟨phpB, hpB⟩ := Ints.at hu (i := k) (by omega) (by omega)
    have heb := enc_bd hs hst (k := k.toNat) (by omega)
    have hsb := hst k.toNat (by omega)
    have hsb2 := hs.2 k.toNat (by omega)
    refine Cq.drawS 11 (fun w' => At w' 3 r k phpA (.int .i64 (ss.getD k.toNat 0)) ∧ At w' 3 u k phpB (.int .i64 (st.getD k.toNat 0))) mixed (⟨hpA, hpB⟩) (fun w3 e4 hS => ?_)
    clear hS
    have hs5 := Below.size e4
    replace E := E.trans e4
    replace hr := hr.ext e4
    replace hu := hu.ext e4
    replace hpA := hpA.ext e4
    replace hpB := hpB.ext e4
    refine Gq.st 0 rfl (by kernel_rfl) rfl .plain rfl (fun _ _ _ h => h) ⟨hpA, hpB⟩ (fun w' x => Still.move rfl) ?_
    refine Gq.st 1 rfl (by kernel_rfl) rfl .plain rfl (fun _ _ _ h => h) ⟨hpA, hpB⟩ (fun w' x => Still.move rfl) ?_
    refine Gq.st 2 rfl (by kernel_rfl) rfl .plain rfl (fun _ _ _ h => h) ⟨hpA, hpB⟩ (fun w' x => Still.move rfl) ?_
    refine Gq.st 3 rfl (by kernel_rfl) rfl .plain rfl (fun _ _ _ h => h) ⟨hpA, hpB⟩ (fun w' x => Still.at' sl56 hpA rfl rfl) ?_
    refine Gq.st 4 rfl (by kernel_rfl) rfl .plain rfl (fun _ _ _ h => h) ⟨hpA, hpB⟩ (fun w' x => Still.loadA one3 rfl (x.1).1) ?_
    refine Gq.st 5 rfl (by kernel_rfl) rfl .plain rfl (fun _ _ _ h => h) ⟨hpA, hpB⟩ (fun w' x => Still.mul rfl rfl (by omega)) ?_
    refine Gq.st 6 rfl (by kernel_rfl) rfl .plain rfl (fun _ _ _ h => h) ⟨hpA, hpB⟩ (fun w' x => Still.move rfl) ?_
    refine Gq.st 7 rfl (by kernel_rfl) rfl .plain rfl (fun _ _ _ h => h) ⟨hpA, hpB⟩ (fun w' x => Still.move rfl) ?_
    refine Gq.st 8 rfl (by kernel_rfl) rfl .plain rfl (fun _ _ _ h => h) ⟨hpA, hpB⟩ (fun w' x => Still.at' sl56 hpB rfl rfl) ?_
    refine Gq.st 9 rfl (by kernel_rfl) rfl .plain rfl (fun _ _ _ h => h) ⟨hpA, hpB⟩ (fun w' x => Still.loadA one3 rfl (x.2).1) ?_
    refine Gq.st 10 rfl (by kernel_rfl) rfl .plain rfl (fun _ _ _ h => h) ⟨hpA, hpB⟩ (fun w' x => Still.add rfl rfl (by omega)) ?_
    refine Gq.one 11 rfl (by kernel_rfl) ?_
    refine Sq.assign .plain rfl rfl ?_
    refine Sq.nil ?_
    refine Eq.goes (fun h => absurd h (by decide)) ?_
    refine Gq.done (by kernel_rfl) ?_
    refine Eq.end ?_
    refine Eq.next ?_
    refine Cq.region ?_
    refine Sq.move .plain rfl rfl ?_
    refine Sq.add .plain rfl rfl rfl (by omega) ?_
    refine Sq.assign .plain rfl rfl ?_
    refine Sq.nil ?_
    have e1 := toNat_succ hk.1
    rw [show encTo ss st k.toNat * ss.getD k.toNat 0 + st.getD k.toNat 0 = encTo ss st (k + 1).toNat by rw [e1]; rfl]
    refine Eq.round _ _ ⟨k + 1, rfl, by omega, E, hr, hu, rfl⟩ (by omega) (.cons rfl (.cons rfl (.cons rfl (.cons rfl (.nil)))))
  refine Sq.nil ?_
  refine Eq.next ?_
  refine Cq.els rfl ?_
  refine Cq.exit ?_
  refine Eq.past ?_
  refine Eq.past ?_
  refine Eq.hit ?_
  refine Eq.next ?_
  refine Cq.seq ?_
  refine Cq.region ?_
  refine Sq.move .plain rfl rfl ?_
  refine Sq.assign .plain rfl rfl ?_
  refine Sq.nil ?_
  refine Eq.next ?_
  refine Cq.ret ?_
  refine Eq.ret1 rfl rfl ?_
  have e2 : k.toNat = ss.length := by omega
  exact ⟨by rw [e2], E⟩
set_option maxRecDepth 100000 in
theorem l4Choices_c (w0 : World) (aa : List A) (av sv : Value) (ss : List Int) (lt kd gl : Int) (hN : NetA w0 26 56 3 4 av aa) (hS : Ints w0 3 sv ss) (hok : NetOk aa) (i q x : Int) (hi : 0 ≤ i ∧ i < aa.length) (hq : 0 ≤ q ∧ q < ((aa.getD i.toNat zeroA).next.length : Int)) (hx : 0 ≤ x ∧ x < 6) : Ret Try.prog 136 #[Value.agg #[Value.slice none 0 0, av, sv, Value.int .i64 lt, Value.int .i64 kd, Value.int .i64 gl], Value.int .i64 i, Value.int .i64 q, Value.int .i64 x] w0 (fun v w => Own w w0.heap.size 3 v [Value.int .i64 (goA (aa.getD i.toNat zeroA) q x)] ∧ Ext w0 w) := by
  have E := Ext.refl w0
  obtain ⟨BN, rows, hW, hrl, hat⟩ := id hN
  have hlen := hok.1
  have hv := (net_at hok (k := i.toNat) (by omega)).2.1
  refine Ret.of (args := [Value.agg #[Value.slice none 0 0, av, sv, Value.int .i64 lt, Value.int .i64 kd, Value.int .i64 gl], Value.int .i64 i, Value.int .i64 q, Value.int .i64 x]) Try.func136 rfl rfl rfl ?_
  rintro _ rfl
  show Cq _ _ _ _ [(0, Value.agg #[Value.slice none 0 0, av, sv, Value.int .i64 lt, Value.int .i64 kd, Value.int .i64 gl]), (1, Value.int .i64 i), (2, Value.int .i64 q), (3, Value.int .i64 x)] _
  refine Cq.seq ?_
  refine Cq.region ?_
  refine Sq.box .plain rfl rfl (fun b1 w2 e3 hB4 hlo5 => ?_)
  have hd6 := Nat.le_trans (Below.size E) hlo5
  have hs7 := Below.size e3
  replace E := E.trans e3
  replace hW := hW.ext e3
  refine Sq.assign .plain rfl rfl ?_
  refine Sq.nil ?_
  refine Eq.next ?_
  refine Cq.seq ?_
  refine Cq.seq ?_
  refine Cq.region ?_
  refine Sq.move .plain rfl rfl ?_
  refine Sq.fieldAddr fld105_0 .plain rfl rfl ?_
  refine Sq.loadB one103 .plain rfl rfl hB4 rfl ?_
  refine Sq.len .plain rfl und103 rfl ?_
  refine Sq.geq .plain rfl rfl rfl ?_
  refine Sq.isT (by omega) ?_
  refine Sq.nil ?_
  refine Eq.next ?_
  refine Cq.thn rfl ?_
  refine Cq.seq ?_
  refine Cq.region ?_
  refine Sq.fieldAddr fld105_1 .plain rfl rfl ?_
  refine Sq.loadB one102 .plain rfl rfl hB4 rfl ?_
  refine Sq.move .plain rfl rfl ?_
  refine Sq.fieldAddr fld105_0 .plain rfl rfl ?_
  refine Sq.loadB one103 .plain rfl rfl hB4 rfl ?_
  refine Sq.len .plain rfl und103 rfl ?_
  refine Sq.sub .plain rfl rfl rfl (by omega) ?_
  rw [show i - ((0 : Nat) : Int) = i by omega]
  obtain ⟨nxq8, acq8, hrq8, hnxq8, hacq8⟩ := hat i.toNat (aa.getD i.toNat zeroA) (at_getD (by omega))
  obtain ⟨gq8, cq8, hvq8, hlq8⟩ := Wid.rowAt hW (i := i) (by omega) hrq8
  refine Sq.val .plain rfl rfl (Still.ixV slw102 hvq8 rfl rfl (by omega)) ?_
  refine Sq.val .plain rfl rfl (Still.loadAggW agg26 rfl rfl (fun j hj => Wid.cellR hvq8 hW (by omega) hrq8 hj)) ?_
  refine Sq.move .plain rfl rfl ?_
  refine Sq.move .plain rfl rfl ?_
  have hd12 := hB4.lt
  refine Sq.call fn54 .plain rfl rfl (l3Go_c _ (aa.getD i.toNat zeroA) _ _ (hnxq8.ext E) (hacq8.ext E) hv q x (by omega) (by omega)) ?_
  rintro _ w10 ⟨rfl, e11⟩
  have hs13 := Below.size E
  have hs14 := Below.size e11
  replace E := E.trans e11
  refine Sq.lit sl56 rfl rfl .plain rfl rfl (one_cons rfl one_nil) (fun b15 w16 e17 hlo18 ho19 _ => ?_)
  replace ho19 := ho19 w10.heap.size (Nat.le_refl _)
  have hs21 := Below.size e17
  replace E := E.trans e17
  refine Sq.assign .plain rfl rfl ?_
  refine Sq.nil ?_
  refine Eq.next ?_
  refine Cq.ret ?_
  refine Eq.pastRet ?_
  refine Eq.ret1 rfl rfl ?_
  exact ⟨Own.mono ho19 (by omega), E⟩
end Go.Proofs.Ytdejmfkpohgamaa
set_option linter.unusedSimpArgs false
set_option linter.unusedVariables false
namespace Go.Proofs.Ytdejmfkpohgamaa
open Go.RowKit
set_option maxRecDepth 100000 in
theorem l4Ok_c (w0 : World) (aa : List A) (av sv : Value) (ss : List Int) (lt kd gl : Int) (hN : NetA w0 26 56 3 4 av aa) (hS : Ints w0 3 sv ss) (u : Value) (st : List Int) (hu : Ints w0 3 u st) (hok : NetOk aa) (hst : StOk (szs aa) st) (hsl : st.length = aa.length) (i : Int) (hi : 0 ≤ i ∧ i < aa.length) : Ret Try.prog 134 #[Value.agg #[Value.slice none 0 0, av, sv, Value.int .i64 lt, Value.int .i64 kd, Value.int .i64 gl], u, Value.int .i64 i] w0 (fun v w => v = .bool (accA (aa.getD i.toNat zeroA) (st.getD i.toNat 0)) ∧ Ext w0 w) := by
  have E := Ext.refl w0
  obtain ⟨BN, rows, hW, hrl, hat⟩ := id hN
  have hlen := hok.1
  refine Ret.of (args := [Value.agg #[Value.slice none 0 0, av, sv, Value.int .i64 lt, Value.int .i64 kd, Value.int .i64 gl], u, Value.int .i64 i]) Try.func134 rfl rfl rfl ?_
  rintro _ rfl
  show Cq _ _ _ _ [(0, Value.agg #[Value.slice none 0 0, av, sv, Value.int .i64 lt, Value.int .i64 kd, Value.int .i64 gl]), (1, u), (2, Value.int .i64 i)] _
  refine Cq.seq ?_
  refine Cq.region ?_
  refine Sq.box .plain rfl rfl (fun b1 w2 e3 hB4 hlo5 => ?_)
  have hd6 := Nat.le_trans (Below.size E) hlo5
  have hs7 := Below.size e3
  replace E := E.trans e3
  replace hW := hW.ext e3
  refine Sq.assign .plain rfl rfl ?_
  refine Sq.nil ?_
  refine Eq.next ?_
  refine Cq.seq ?_
  obtain ⟨nxq, acq, hrq, hnxq, hacq⟩ := hat i.toNat (aa.getD i.toNat zeroA) (at_getD (by omega))
  obtain ⟨gq, cq, hvq, hlq⟩ := Wid.rowAt hW (i := i) (by omega) hrq
  have hcC : Cell1 w2 ⟨gq, i.toNat * 3 + 2, none⟩ acq := Wid.cellR hvq hW (by omega) hrq (j := 2) (by decide)
  obtain ⟨phpS, hpS⟩ := Ints.at hu (i := i) (by omega) (by omega)
  replace hpS : At w2 3 u (((0 : Nat) : Int) + i) phpS (.int .i64 (st.getD i.toNat 0)) := by rw [show (((0 : Nat) : Int) + i) = i by omega]; exact hpS.ext E
  have hsti := st_at hst (k := i.toNat) (by omega)
  have hnat := net_at hok (k := i.toNat) (by omega)
  obtain ⟨phpC, hpC⟩ := Bools.at hacq (i := st.getD i.toNat 0) (by omega) (by omega)
  replace hpC := hpC.ext E
  refine Cq.drawS 16 (fun w' => Blk w' b1 105 [Value.slice none 0 0, av, sv, Value.int .i64 lt, Value.int .i64 kd, Value.int .i64 gl] ∧ Cell1 w' ⟨gq, i.toNat * 3 + 2, none⟩ acq ∧ At w' 3 u (((0 : Nat) : Int) + i) phpS (.int .i64 (st.getD i.toNat 0)) ∧ At w' 4 acq (st.getD i.toNat 0) phpC (.bool ((aa.getD i.toNat zeroA).acc.getD (st.getD i.toNat 0).toNat false))) mixed (⟨hB4, hcC, hpS, hpC⟩) (fun w8 e9 hS => ?_)
  clear hS
  have hs10 := Below.size e9
  replace E := E.trans e9
  replace hB4 := hB4.ext e9
  replace hcC := hcC.ext e9
  replace hpS := hpS.ext e9
  replace hpC := hpC.ext e9
  refine Gq.st 0 rfl (by kernel_rfl) rfl .plain rfl (fun _ _ _ h => h) ⟨hB4, hcC, hpS, hpC⟩ (fun w' x => Still.fieldAddr fld105_1 rfl) ?_
  refine Gq.st 1 rfl (by kernel_rfl) rfl .plain rfl (fun _ _ _ h => h) ⟨hB4, hcC, hpS, hpC⟩ (fun w' x => Still.loadB one102 rfl x.1 rfl) ?_
  refine Gq.st 2 rfl (by kernel_rfl) rfl .plain rfl (fun _ _ _ h => h) ⟨hB4, hcC, hpS, hpC⟩ (fun w' x => Still.move rfl) ?_
  refine Gq.st 3 rfl (by kernel_rfl) rfl .plain rfl (fun _ _ _ h => h) ⟨hB4, hcC, hpS, hpC⟩ (fun w' x => Still.ixV slw102 hvq rfl rfl (by omega)) ?_
  refine Gq.st 4 rfl (by kernel_rfl) rfl .plain rfl (fun _ _ _ h => h) ⟨hB4, hcC, hpS, hpC⟩ (fun w' x => Still.fieldAddr fld26_2 rfl) ?_
  refine Gq.st 5 rfl (by kernel_rfl) rfl .plain rfl (fun _ _ _ h => h) ⟨hB4, hcC, hpS, hpC⟩ (fun w' x => Still.load one24 rfl (x.2.1)) ?_
  refine Gq.st 6 rfl (by kernel_rfl) rfl .plain rfl (fun _ _ _ h => h) ⟨hB4, hcC, hpS, hpC⟩ (fun w' x => Still.move rfl) ?_
  refine Gq.st 7 rfl (by kernel_rfl) rfl .plain rfl (fun _ _ _ h => h) ⟨hB4, hcC, hpS, hpC⟩ (fun w' x => Still.fieldAddr fld105_0 rfl) ?_
  refine Gq.st 8 rfl (by kernel_rfl) rfl .plain rfl (fun _ _ _ h => h) ⟨hB4, hcC, hpS, hpC⟩ (fun w' x => Still.loadB one103 rfl x.1 rfl) ?_
  refine Gq.st 9 rfl (by kernel_rfl) rfl .plain rfl (fun _ _ _ h => h) ⟨hB4, hcC, hpS, hpC⟩ (fun w' x => Still.len und103 rfl) ?_
  refine Gq.st 10 rfl (by kernel_rfl) rfl .plain rfl (fun _ _ _ h => h) ⟨hB4, hcC, hpS, hpC⟩ (fun w' x => Still.move rfl) ?_
  refine Gq.st 11 rfl (by kernel_rfl) rfl .plain rfl (fun _ _ _ h => h) ⟨hB4, hcC, hpS, hpC⟩ (fun w' x => Still.add rfl rfl (by omega)) ?_
  refine Gq.st 12 rfl (by kernel_rfl) rfl .plain rfl (fun _ _ _ h => h) ⟨hB4, hcC, hpS, hpC⟩ (fun w' x => Still.at' sl56 hpS rfl rfl) ?_
  refine Gq.st 13 rfl (by kernel_rfl) rfl .plain rfl (fun _ _ _ h => h) ⟨hB4, hcC, hpS, hpC⟩ (fun w' x => Still.loadA one3 rfl (x.2.2.1).1) ?_
  refine Gq.st 14 rfl (by kernel_rfl) rfl .plain rfl (fun _ _ _ h => h) ⟨hB4, hcC, hpS, hpC⟩ (fun w' x => Still.at' sl24 hpC rfl rfl) ?_
  refine Gq.st 15 rfl (by kernel_rfl) rfl .plain rfl (fun _ _ _ h => h) ⟨hB4, hcC, hpS, hpC⟩ (fun w' x => Still.loadA one4 rfl (x.2.2.2).1) ?_
  refine Gq.one 16 rfl (by kernel_rfl) ?_
  refine Sq.assign .plain rfl rfl ?_
  refine Sq.nil ?_
  refine Eq.goes (fun h => absurd h (by decide)) ?_
  refine Gq.done (by kernel_rfl) ?_
  refine Eq.next ?_
  refine Cq.ret ?_
  refine Eq.ret1 rfl rfl ?_
  exact ⟨rfl, E⟩
set_option maxRecDepth 100000 in
theorem l4Found_c (w0 : World) (aa : List A) (av sv : Value) (ss : List Int) (lt kd gl : Int) (hN : NetA w0 26 56 3 4 av aa) (hS : Ints w0 3 sv ss) (u : Value) (st : List Int) (hu : Ints w0 3 u st) (hok : NetOk aa) (hst : StOk (szs aa) st) (hsl : st.length = aa.length) (mv : Value) (hk : KindOk kd aa) : Ret Try.prog 120 #[Value.agg #[Value.slice none 0 0, av, sv, Value.int .i64 lt, Value.int .i64 kd, Value.int .i64 gl], u, mv] w0 (fun v w => v = .bool (foundN kd gl aa st) ∧ Ext w0 w) := by
  have E := Ext.refl w0
  have hlen := hok.1
  have hk' : kd = 0 ∨ kd = 5 ∨ ((kd = 1 ∨ kd = 2) ∧ aa.length = 2) := hk
  refine Ret.of (args := [Value.agg #[Value.slice none 0 0, av, sv, Value.int .i64 lt, Value.int .i64 kd, Value.int .i64 gl], u, mv]) Try.func120 rfl rfl rfl ?_
  rintro _ rfl
  show Cq _ _ _ _ [(0, Value.agg #[Value.slice none 0 0, av, sv, Value.int .i64 lt, Value.int .i64 kd, Value.int .i64 gl]), (1, u), (2, mv)] _
  refine Cq.seq ?_
  refine Cq.region ?_
  refine Sq.box .plain rfl rfl (fun b1 w2 e3 hB4 hlo5 => ?_)
  have hd6 := Nat.le_trans (Below.size E) hlo5
  have hs7 := Below.size e3
  replace E := E.trans e3
  refine Sq.assign .plain rfl rfl ?_
  refine Sq.nil ?_
  refine Eq.next ?_
  refine Cq.seq ?_
  refine Cq.seq ?_
  refine Cq.region ?_
  refine Sq.fieldAddr fld105_4 .plain rfl rfl ?_
  refine Sq.loadB one3 .plain rfl rfl hB4 rfl ?_
  refine Sq.nil ?_
  refine Eq.next ?_
  refine Cq.block ?_
  refine Cq.seq ?_
  refine Cq.region ?_
  refine Sq.eql .plain rfl rfl rfl ?_
  refine Sq.part (fun hk0 => ?_) (fun hk0 => ?_)
  · refine Sq.assign .plain rfl rfl ?_
    refine Sq.nil ?_
    refine Eq.next ?_
    refine Cq.thn rfl ?_
    refine Cq.seq ?_
    refine Cq.region ?_
    refine Sq.loadAgg agg105 .plain rfl rfl hB4 rfl ?_
    refine Sq.move .plain rfl rfl ?_
    have hd11 := hB4.lt
    refine Sq.call fn134 .plain rfl rfl (l4Ok_c _ aa av sv ss lt kd gl (hN.ext E) (hS.ext E) u st (hu.ext E) hok hst hsl 0 (by omega)) ?_
    rintro _ w9 ⟨rfl, e10⟩
    have hs12 := Below.size E
    have hs13 := Below.size e10
    replace E := E.trans e10
    refine Sq.assign .plain rfl rfl ?_
    refine Sq.nil ?_
    refine Eq.next ?_
    refine Cq.ret ?_
    refine Eq.outRet ?_
    refine Eq.pastRet ?_
    refine Eq.ret1 rfl rfl ?_
    exact ⟨by unfold foundN; rw [if_pos hk0]; first | done | rfl | (have hx' : accA (aa.getD 0 zeroA) (st.getD 0 0) = _ := hx; rw [hx']; first | done | rfl | (rw [Bool.true_and]; done) | (rw [Bool.true_and]; rfl) | (rw [Bool.false_and]; done) | (rw [Bool.false_and]; rfl)), E⟩
  refine Sq.assign .plain rfl rfl ?_
  refine Sq.nil ?_
  refine Eq.next ?_
  refine Cq.els rfl ?_
  refine Cq.seq ?_
  refine Cq.region ?_
  refine Sq.eql .plain rfl rfl rfl ?_
  refine Sq.part (fun hk1 => ?_) (fun hk1 => ?_)
  · refine Sq.assign .plain rfl rfl ?_
    refine Sq.nil ?_
    refine Eq.next ?_
    refine Cq.thn rfl ?_
    refine Cq.seq ?_
    refine Cq.drawS 7 (fun w' => Blk w' b1 105 [Value.slice none 0 0, av, sv, Value.int .i64 lt, Value.int .i64 kd, Value.int .i64 gl]) mixed (hB4) (fun w14 e15 hS => ?_)
    clear hS
    have hs16 := Below.size e15
    replace E := E.trans e15
    replace hB4 := hB4.ext e15
    refine Gq.st 0 rfl (by kernel_rfl) rfl .plain rfl (fun _ _ _ h => h) hB4 (fun w' x => Still.loadAgg agg105 rfl x rfl) ?_
    refine Gq.st 1 rfl (by kernel_rfl) rfl .plain rfl (fun _ _ _ h => h) hB4 (fun w' x => Still.move rfl) ?_
    refine Gq.st 3 rfl (by kernel_rfl) rfl .plain rfl (fun _ _ _ h => h) hB4 (fun w' x => Still.loadAgg agg105 rfl x rfl) ?_
    refine Gq.st 4 rfl (by kernel_rfl) rfl .plain rfl (fun _ _ _ h => h) hB4 (fun w' x => Still.move rfl) ?_
    refine Gq.one 2 rfl (by kernel_rfl) ?_
    have hd20 := hB4.lt
    refine Sq.call fn134 .plain rfl rfl (l4Ok_c _ aa av sv ss lt kd gl (hN.ext E) (hS.ext E) u st (hu.ext E) hok hst hsl 0 (by omega)) ?_
    rintro _ w18 ⟨rfl, e19⟩
    have hs21 := Below.size E
    have hs22 := Below.size e19
    replace E := E.trans e19
    replace hB4 := hB4.ext e19
    refine Sq.nil ?_
    refine Eq.goes (fun _ => hB4) ?_
    refine Gq.one 5 rfl (by kernel_rfl) ?_
    have hd26 := hB4.lt
    refine Sq.call fn134 .plain rfl rfl (l4Ok_c _ aa av sv ss lt kd gl (hN.ext E) (hS.ext E) u st (hu.ext E) hok hst hsl 1 (by omega)) ?_
    rintro _ w24 ⟨rfl, e25⟩
    have hs27 := Below.size E
    have hs28 := Below.size e25
    replace E := E.trans e25
    replace hB4 := hB4.ext e25
    refine Sq.nil ?_
    refine Eq.goes (fun _ => hB4) ?_
    refine Gq.st 6 rfl (by kernel_rfl) rfl .plain rfl (fun _ _ _ h => h) hB4 (fun w' x => Still.neqB und4 rfl rfl) ?_
    refine Gq.one 7 rfl (by kernel_rfl) ?_
    refine Sq.assign .plain rfl rfl ?_
    refine Sq.nil ?_
    refine Eq.goes (fun h => absurd h (by decide)) ?_
    refine Gq.done (by kernel_rfl) ?_
    refine Eq.next ?_
    refine Cq.ret ?_
    refine Eq.outRet ?_
    refine Eq.pastRet ?_
    refine Eq.ret1 rfl rfl ?_
    exact ⟨by unfold foundN; rw [if_neg hk0]; rw [if_pos hk1]; first | done | rfl | (have hx' : accA (aa.getD 0 zeroA) (st.getD 0 0) = _ := hx; rw [hx']; first | done | rfl | (rw [Bool.true_and]; done) | (rw [Bool.true_and]; rfl) | (rw [Bool.false_and]; done) | (rw [Bool.false_and]; rfl)), E⟩
  refine Sq.assign .plain rfl rfl ?_
  refine Sq.nil ?_
  refine Eq.next ?_
  refine Cq.els rfl ?_
  refine Cq.seq ?_
  refine Cq.region ?_
  refine Sq.eql .plain rfl rfl rfl ?_
  refine Sq.part (fun hk2 => ?_) (fun hk2 => ?_)
  · refine Sq.assign .plain rfl rfl ?_
    refine Sq.nil ?_
    refine Eq.next ?_
    refine Cq.thn rfl ?_
    refine Cq.seq ?_
    refine Cq.region ?_
    refine Sq.loadAgg agg105 .plain rfl rfl hB4 rfl ?_
    refine Sq.move .plain rfl rfl ?_
    have hd32 := hB4.lt
    refine Sq.call fn134 .plain rfl rfl (l4Ok_c _ aa av sv ss lt kd gl (hN.ext E) (hS.ext E) u st (hu.ext E) hok hst hsl 0 (by omega)) ?_
    rintro _ w30 ⟨rfl, e31⟩
    have hs33 := Below.size E
    have hs34 := Below.size e31
    replace E := E.trans e31
    replace hB4 := hB4.ext e31
    refine Sq.partB (fun hx => ?_) (fun hx => ?_)
    · refine Sq.move .plain rfl rfl ?_
      refine Sq.loadAgg agg105 (.met rfl rfl rfl) rfl rfl hB4 rfl ?_
      refine Sq.move (.met rfl rfl rfl) rfl rfl ?_
      have hd38 := hB4.lt
      refine Sq.call fn134 (.met rfl rfl rfl) rfl rfl (l4Ok_c _ aa av sv ss lt kd gl (hN.ext E) (hS.ext E) u st (hu.ext E) hok hst hsl 1 (by omega)) ?_
      rintro _ w36 ⟨rfl, e37⟩
      have hs39 := Below.size E
      have hs40 := Below.size e37
      replace E := E.trans e37
      refine Sq.not (.met rfl rfl rfl) rfl rfl ?_
      refine Sq.pickT .plain rfl rfl rfl ?_
      refine Sq.assign .plain rfl rfl ?_
      refine Sq.nil ?_
      refine Eq.next ?_
      refine Cq.ret ?_
      refine Eq.outRet ?_
      refine Eq.pastRet ?_
      refine Eq.ret1 rfl rfl ?_
      exact ⟨by unfold foundN; rw [if_neg hk0]; rw [if_neg hk1]; rw [if_pos hk2]; first | done | rfl | (have hx' : accA (aa.getD 0 zeroA) (st.getD 0 0) = _ := hx; rw [hx']; first | done | rfl | (rw [Bool.true_and]; done) | (rw [Bool.true_and]; rfl) | (rw [Bool.false_and]; done) | (rw [Bool.false_and]; rfl)), E⟩
    refine Sq.move .plain rfl rfl ?_
    refine Sq.off rfl rfl rfl rfl rfl rfl ?_
    refine Sq.off rfl rfl rfl rfl rfl rfl ?_
    refine Sq.off rfl rfl rfl rfl rfl rfl ?_
    refine Sq.off rfl rfl rfl rfl rfl rfl ?_
    refine Sq.pickF .plain rfl rfl rfl ?_
    refine Sq.assign .plain rfl rfl ?_
    refine Sq.nil ?_
    refine Eq.next ?_
    refine Cq.ret ?_
    refine Eq.outRet ?_
    refine Eq.pastRet ?_
    refine Eq.ret1 rfl rfl ?_
    exact ⟨by unfold foundN; rw [if_neg hk0]; rw [if_neg hk1]; rw [if_pos hk2]; first | done | rfl | (have hx' : accA (aa.getD 0 zeroA) (st.getD 0 0) = _ := hx; rw [hx']; first | done | rfl | (rw [Bool.true_and]; done) | (rw [Bool.true_and]; rfl) | (rw [Bool.false_and]; done) | (rw [Bool.false_and]; rfl)), E⟩
  refine Sq.assign .plain rfl rfl ?_
  refine Sq.nil ?_
  refine Eq.next ?_
  refine Cq.els rfl ?_
  refine Cq.seq ?_
  refine Cq.region ?_
  refine Sq.eql .plain rfl rfl rfl ?_
  refine Sq.isF (by omega) ?_
  refine Sq.assign .plain rfl rfl ?_
  refine Sq.nil ?_
  refine Eq.next ?_
  refine Cq.els rfl ?_
  refine Cq.seq ?_
  refine Cq.region ?_
  refine Sq.eql .plain rfl rfl rfl ?_
  refine Sq.isT (by omega) ?_
  refine Sq.assign .plain rfl rfl ?_
  refine Sq.nil ?_
  refine Eq.next ?_
  refine Cq.thn rfl ?_
  refine Cq.seq ?_
  obtain ⟨phpS, hpS⟩ := Ints.at hu (i := ((0 : Nat) : Int)) (by omega) (by omega)
  replace hpS := hpS.ext E
  refine Cq.drawS 9 (fun w' => Blk w' b1 105 [Value.slice none 0 0, av, sv, Value.int .i64 lt, Value.int .i64 kd, Value.int .i64 gl] ∧ At w' 3 u ((0 : Nat) : Int) phpS (.int .i64 (st.getD 0 0))) mixed (⟨hB4, hpS⟩) (fun w41 e42 hS => ?_)
  clear hS
  have hs43 := Below.size e42
  replace E := E.trans e42
  replace hB4 := hB4.ext e42
  replace hpS := hpS.ext e42
  refine Gq.st 0 rfl (by kernel_rfl) rfl .plain rfl (fun _ _ _ h => h) ⟨hB4, hpS⟩ (fun w' x => Still.move rfl) ?_
  refine Gq.st 1 rfl (by kernel_rfl) rfl .plain rfl (fun _ _ _ h => h) ⟨hB4, hpS⟩ (fun w' x => Still.fieldAddr fld105_0 rfl) ?_
  refine Gq.st 2 rfl (by kernel_rfl) rfl .plain rfl (fun _ _ _ h => h) ⟨hB4, hpS⟩ (fun w' x => Still.loadB one103 rfl x.1 rfl) ?_
  refine Gq.st 3 rfl (by kernel_rfl) rfl .plain rfl (fun _ _ _ h => h) ⟨hB4, hpS⟩ (fun w' x => Still.len und103 rfl) ?_
  refine Gq.st 4 rfl (by kernel_rfl) rfl .plain rfl (fun _ _ _ h => h) ⟨hB4, hpS⟩ (fun w' x => Still.at' sl56 hpS rfl rfl) ?_
  refine Gq.st 5 rfl (by kernel_rfl) rfl .plain rfl (fun _ _ _ h => h) ⟨hB4, hpS⟩ (fun w' x => Still.loadA one3 rfl (x.2).1) ?_
  refine Gq.st 6 rfl (by kernel_rfl) rfl .plain rfl (fun _ _ _ h => h) ⟨hB4, hpS⟩ (fun w' x => Still.fieldAddr fld105_5 rfl) ?_
  refine Gq.st 7 rfl (by kernel_rfl) rfl .plain rfl (fun _ _ _ h => h) ⟨hB4, hpS⟩ (fun w' x => Still.loadB one3 rfl x.1 rfl) ?_
  refine Gq.st 8 rfl (by kernel_rfl) rfl .plain rfl (fun _ _ _ h => h) ⟨hB4, hpS⟩ (fun w' x => Still.eql rfl rfl) ?_
  refine Gq.one 9 rfl (by kernel_rfl) ?_
  refine Sq.assign .plain rfl rfl ?_
  refine Sq.nil ?_
  refine Eq.goes (fun h => absurd h (by decide)) ?_
  refine Gq.done (by kernel_rfl) ?_
  refine Eq.next ?_
  refine Cq.ret ?_
  refine Eq.outRet ?_
  refine Eq.pastRet ?_
  refine Eq.ret1 rfl rfl ?_
  exact ⟨by unfold foundN; rw [if_neg hk0]; rw [if_neg hk1]; rw [if_neg hk2]; first | done | rfl | (have hx' : accA (aa.getD 0 zeroA) (st.getD 0 0) = _ := hx; rw [hx']; first | done | rfl | (rw [Bool.true_and]; done) | (rw [Bool.true_and]; rfl) | (rw [Bool.false_and]; done) | (rw [Bool.false_and]; rfl)), E⟩
set_option maxRecDepth 100000 in
theorem l4Near_c (w0 : World) (rv dv : Value) (xss : List (List Int)) (ds : List Int) (d : Int) (hr : Rows w0 56 3 rv xss) (hd : Ints w0 3 dv ds) (hb : ∀ r ∈ xss, r.length ≤ 1000 ∧ ∀ x ∈ r, 0 ≤ x ∧ x < (ds.length : Int)) (hl : xss.length ≤ 1000) : Ret Try.prog 135 #[rv, dv, Value.int .i64 d] w0 (fun v w => v = .bool (nearX ds xss d) ∧ Ext w0 w) := by
  have E := Ext.refl w0
  refine Ret.of (args := [rv, dv, Value.int .i64 d]) Try.func135 rfl rfl rfl ?_
  rintro _ rfl
  show Cq _ _ _ _ [(0, rv), (1, dv), (2, Value.int .i64 d)] _
  refine Cq.seq ?_
  refine Cq.region ?_
  refine Sq.assign .plain rfl rfl ?_
  refine Sq.nil ?_
  refine Eq.next ?_
  refine Cq.seq ?_
  refine Cq.seq ?_
  refine Cq.region ?_
  refine Sq.assign .plain rfl rfl ?_
  refine Sq.nil ?_
  refine Eq.next ?_
  refine Cq.block ?_
  refine Cq.loop (fun nn w ls => ∃ (k : Int), ls = [(0, rv), (1, dv), (2, Value.int .i64 d), (7, Value.int .i64 k)] ∧ (0 ≤ k ∧ k ≤ xss.length) ∧ nearX ds (xss.take k.toNat) d = false ∧ Ext w0 w ∧ nn = ((xss.length : Int) - k).toNat) _ _ ⟨0, rfl, by omega, rfl, E, rfl⟩ (.cons rfl (.cons rfl (.cons rfl (.cons rfl (.nil))))) ?_
  rintro nn wl1 ls ⟨k, rfl, hk, hp, E, rfl⟩
  have hs1 := Below.size E
  refine Cq.seq ?_
  refine Cq.seq ?_
  refine Cq.region ?_
  refine Sq.move .plain rfl rfl ?_
  refine Sq.move .plain rfl rfl ?_
  refine Sq.lenRows (hr.ext E) .plain rfl und23 rfl ?_
  refine Sq.lss .plain rfl rfl rfl ?_
  refine Sq.part (fun c2 => ?_) (fun c2 => ?_)
  · refine Sq.nil ?_
    refine Eq.next ?_
    refine Cq.thn rfl ?_
    refine Cq.skip ?_
    refine Eq.next ?_
    refine Cq.seq ?_
    refine Cq.block ?_
    refine Cq.seq ?_
    refine Cq.region ?_
    refine Sq.assign .plain rfl rfl ?_
    refine Sq.nil ?_
    refine Eq.next ?_
    refine Cq.block ?_
    have hbr := hb (xss.getD k.toNat []) (getD_mem (by omega))
    have hbr1 := hbr.1
    refine Cq.loop (fun nn w ls => ∃ (i : Int), ls = [(0, rv), (1, dv), (2, Value.int .i64 d), (7, Value.int .i64 k), (8, Value.int .i64 i)] ∧ (0 ≤ i ∧ i ≤ (xss.getD k.toNat []).length) ∧ (((xss.getD k.toNat []).take i.toNat).any fun x => decide (ds.getD x.toNat 0 = d)) = false ∧ Ext w0 w ∧ nn = (((xss.getD k.toNat []).length : Int) - i).toNat) _ _ ⟨0, rfl, by omega, rfl, E, rfl⟩ (.cons rfl (.cons rfl (.cons rfl (.cons rfl (.cons rfl (.nil)))))) ?_
    rintro nn wl2 ls ⟨i, rfl, hi, hq, E, rfl⟩
    have hs3 := Below.size E
    have hbx : i < ((xss.getD k.toNat []).length : Int) → 0 ≤ (xss.getD k.toNat []).getD i.toNat 0 ∧ (xss.getD k.toNat []).getD i.toNat 0 < (ds.length : Int) := fun h => hbr.2 _ (getD_mem (by omega))
    refine Cq.seq ?_
    refine Cq.seq ?_
    refine Cq.region ?_
    refine Sq.move .plain rfl rfl ?_
    refine Sq.move .plain rfl rfl ?_
    refine Sq.move .plain rfl rfl ?_
    refine Sq.idxRows sl23 one56 (hr.ext E) .plain rfl rfl rfl .plain rfl rfl (by omega) (by omega) (fun r4 hr5 => ?_)
    refine Sq.lenInts hr5 .plain rfl und56 rfl ?_
    refine Sq.lss .plain rfl rfl rfl ?_
    refine Sq.part (fun c6 => ?_) (fun c6 => ?_)
    · refine Sq.nil ?_
      refine Eq.next ?_
      refine Cq.thn rfl ?_
      refine Cq.skip ?_
      refine Eq.next ?_
      refine Cq.seq ?_
      refine Cq.block ?_
      refine Cq.seq ?_
      refine Cq.region ?_
      refine Sq.move .plain rfl rfl ?_
      refine Sq.move .plain rfl rfl ?_
      refine Sq.move .plain rfl rfl ?_
      refine Sq.idxRows sl23 one56 (hr.ext E) .plain rfl rfl rfl .plain rfl rfl (by omega) (by omega) (fun r7 hr8 => ?_)
      refine Sq.move .plain rfl rfl ?_
      refine Sq.idxInts sl56 one3 hr8 .plain rfl rfl rfl .plain rfl rfl (by omega) (by omega) ?_
      refine Sq.idxInts sl56 one3 (hd.ext E) .plain rfl rfl rfl .plain rfl rfl (by have := hbx (by omega); omega) (by have := hbx (by omega); omega) ?_
      refine Sq.move .plain rfl rfl ?_
      refine Sq.eql .plain rfl rfl rfl ?_
      refine Sq.part (fun hne => ?_) (fun hne => ?_)
      · refine Sq.nil ?_
        refine Eq.next ?_
        refine Cq.thn rfl ?_
        refine Cq.seq ?_
        refine Cq.region ?_
        refine Sq.assign .plain rfl rfl ?_
        refine Sq.nil ?_
        refine Eq.next ?_
        refine Cq.ret ?_
        refine Eq.outRet ?_
        refine Eq.pastRet ?_
        refine Eq.pastRet ?_
        refine Eq.outRet ?_
        refine Eq.outRet ?_
        refine Eq.pastRet ?_
        refine Eq.pastRet ?_
        refine Eq.outRet ?_
        refine Eq.pastRet ?_
        refine Eq.ret1 rfl rfl ?_
        exact ⟨by rw [near_yes (k := k.toNat) (i := i.toNat) (by omega) (by omega) hne], E⟩
      refine Sq.nil ?_
      refine Eq.next ?_
      refine Cq.els rfl ?_
      refine Cq.skip ?_
      refine Eq.end ?_
      refine Eq.next ?_
      refine Cq.region ?_
      refine Sq.move .plain rfl rfl ?_
      refine Sq.add .plain rfl rfl rfl (by omega) ?_
      refine Sq.assign .plain rfl rfl ?_
      refine Sq.nil ?_
      have e2 := toNat_succ hi.1
      refine Eq.round _ _ ⟨i + 1, rfl, by omega, by rw [e2, take_snoc 0 (by omega), List.any_append, hq, Bool.false_or, List.any_cons, List.any_nil, Bool.or_false]; exact decide_eq_false hne, E, rfl⟩ (by omega) (.cons rfl (.cons rfl (.cons rfl (.cons rfl (.cons rfl (.nil))))))
    refine Sq.nil ?_
    refine Eq.next ?_
    refine Cq.els rfl ?_
    refine Cq.exit ?_
    refine Eq.past ?_
    refine Eq.past ?_
    refine Eq.hit ?_
    refine Eq.end ?_
    refine Eq.next ?_
    refine Cq.region ?_
    refine Sq.move .plain rfl rfl ?_
    refine Sq.add .plain rfl rfl rfl (by omega) ?_
    refine Sq.assign .plain rfl rfl ?_
    refine Sq.nil ?_
    have e1 := toNat_succ hk.1
    refine Eq.round _ _ ⟨k + 1, rfl, by omega, by rw [List.take_of_length_le (by omega)] at hq; rw [e1, take_snoc [] (by omega)]; unfold nearX at hp ⊢; rw [List.any_append, hp, Bool.false_or, List.any_cons, List.any_nil, Bool.or_false]; exact hq, E, rfl⟩ (by omega) (.cons rfl (.cons rfl (.cons rfl (.cons rfl (.nil)))))
  refine Sq.nil ?_
  refine Eq.next ?_
  refine Cq.els rfl ?_
  refine Cq.exit ?_
  refine Eq.past ?_
  refine Eq.past ?_
  refine Eq.hit ?_
  refine Eq.next ?_
  refine Cq.seq ?_
  refine Cq.region ?_
  refine Sq.assign .plain rfl rfl ?_
  refine Sq.nil ?_
  refine Eq.next ?_
  refine Cq.ret ?_
  refine Eq.ret1 rfl rfl ?_
  exact ⟨by rw [List.take_of_length_le (by omega)] at hp; rw [hp], E⟩
end Go.Proofs.Ytdejmfkpohgamaa
set_option linter.unusedSimpArgs false
set_option linter.unusedVariables false
namespace Go.Proofs.Ytdejmfkpohgamaa
open Go.RowKit
set_option maxRecDepth 100000 in
theorem l4Dist_c (w0 wm : World) (B : Nat) (mv dv : Value) (f : Int → Int → Int) (L : List Int) (G : Int → Bool) (n : Nat) (Em : Ext wm w0) (hm : Read3 wm 23 56 3 mv ((List.range n).map fun (q : Nat) => L.map fun x => [f (q : Int) x])) (hB : wm.heap.size ≤ B) (ho : Own w0 B 3 dv ((dsOf f L G n 0).map (Value.int .i64))) (hf : ∀ q l, l ∈ L → 0 ≤ f q l ∧ f q l < n) (hn : n ≤ 1000) (hLl : L.length ≤ 100) : Ret Try.prog 122 #[mv, dv] w0 (fun v w => v = .tuple #[] ∧ (∃ d, d ≤ n ∧ Own w B 3 dv ((dsOf f L G n d).map (Value.int .i64)) ∧ ∀ q, 0 ≤ q ∧ q < (n : Int) → disTo f L G (d + 1) q = disTo f L G d q) ∧ w0.grownBy w dv.ownBlock) := by
  have E := Em
  have hgo := World.grownBy.refl w0 dv.ownBlock
  refine Ret.of (args := [mv, dv]) Try.func122 rfl rfl rfl ?_
  rintro _ rfl
  show Cq _ _ _ _ [(0, mv), (1, dv)] _
  refine Cq.seq ?_
  refine Cq.region ?_
  refine Sq.assign .plain rfl rfl ?_
  refine Sq.nil ?_
  refine Eq.next ?_
  refine Cq.seq ?_
  refine Cq.region ?_
  refine Sq.assign .plain rfl rfl ?_
  refine Sq.nil ?_
  refine Eq.next ?_
  refine Cq.block ?_
  refine Cq.loop (fun nn w ls => ∃ (d : Nat), ∃ (more : Bool), ∃ (dI : Int), ls = [(0, mv), (1, dv), (4, Value.bool more), (5, Value.int .i64 dI)] ∧ Own w B 3 dv ((dsOf f L G n d).map (Value.int .i64)) ∧ dI = (d : Int) + 1 ∧ (more = true → d + todo f L G n d 0 ≤ n) ∧ (more = false → ∃ d', d' ≤ n ∧ dsOf f L G n d = dsOf f L G n d' ∧ ∀ q, 0 ≤ q ∧ q < (n : Int) → disTo f L G (d' + 1) q = disTo f L G d' q) ∧ Ext wm w ∧ World.grownBy w0 w dv.ownBlock ∧ nn = 2 * todo f L G n d 0 + (if more = true then 1 else 0)) _ _ ⟨0, true, 1, rfl, ho, rfl, fun _ => by have := todo_le (f := f) (L := L) (G := G) (n := n) 0 0; omega, fun h => absurd h (by decide), E, hgo, rfl⟩ (.cons rfl (.cons rfl (.cons rfl (.cons rfl (.nil))))) ?_
  rintro nn wl1 ls ⟨d, more, dI, rfl, ho, hdI, hdn, hst, E, hgo, rfl⟩
  have hs1 := Below.size E
  have hdl := dsOf_length (f := f) (L := L) (G := G) (n := n) d
  refine Cq.seq ?_
  refine Cq.seq ?_
  refine Cq.region ?_
  refine Sq.move .plain rfl rfl ?_
  refine Sq.partB (fun hmore => ?_) (fun hmore => ?_)
  · refine Sq.nil ?_
    refine Eq.next ?_
    refine Cq.thn rfl ?_
    refine Cq.skip ?_
    refine Eq.next ?_
    refine Cq.seq ?_
    refine Cq.block ?_
    refine Cq.seq ?_
    refine Cq.region ?_
    refine Sq.assign .plain rfl rfl ?_
    refine Sq.nil ?_
    refine Eq.next ?_
    refine Cq.seq ?_
    refine Cq.region ?_
    refine Sq.assign .plain rfl rfl ?_
    refine Sq.nil ?_
    refine Eq.next ?_
    refine Cq.block ?_
    refine Cq.loop (fun nn w ls => ∃ (i : Int), ∃ (m2 : Bool), ls = [(0, mv), (1, dv), (4, Value.bool m2), (5, Value.int .i64 dI), (6, Value.int .i64 i)] ∧ (0 ≤ i ∧ i ≤ (n : Int)) ∧ Own w B 3 dv ((dsAt f L G n d i.toNat).map (Value.int .i64)) ∧ (m2 = true → todo f L G n d i.toNat + 1 ≤ todo f L G n d 0) ∧ (m2 = false → ∀ j : Nat, j < i.toNat → disTo f L G (d + 1) (j : Int) = disTo f L G d (j : Int)) ∧ todo f L G n d i.toNat ≤ todo f L G n d 0 ∧ Ext wm w ∧ World.grownBy w0 w dv.ownBlock ∧ nn = ((n : Int) - i).toNat) _ _ ⟨0, false, rfl, by omega, by rw [show (0 : Int).toNat = 0 from rfl, dsAt_zero]; exact ho, fun h => absurd h (by decide), fun _ j hj => absurd hj (Nat.not_lt_zero _), Nat.le_refl _, E, hgo, rfl⟩ (.cons rfl (.cons rfl (.cons rfl (.cons rfl (.cons rfl (.nil)))))) ?_
    rintro nn wl2 ls ⟨i, m2, rfl, hi, ho, hmt, hmf, hml, E, hgo, rfl⟩
    have hs2 := Below.size E
    have hdl := dsAt_length (f := f) (L := L) (G := G) (n := n) d i.toNat
    have hdm := hdn hmore
    refine Cq.seq ?_
    refine Cq.seq ?_
    refine Cq.region ?_
    refine Sq.move .plain rfl rfl ?_
    refine Sq.move .plain rfl rfl ?_
    refine Sq.lenInts (Own.row ho) .plain rfl und56 rfl ?_
    refine Sq.lss .plain rfl rfl rfl ?_
    refine Sq.part (fun c3 => ?_) (fun c3 => ?_)
    · refine Sq.nil ?_
      refine Eq.next ?_
      refine Cq.thn rfl ?_
      refine Cq.skip ?_
      refine Eq.next ?_
      refine Cq.seq ?_
      refine Cq.block ?_
      refine Cq.seq ?_
      refine Cq.region ?_
      refine Sq.move .plain rfl rfl ?_
      refine Sq.move .plain rfl rfl ?_
      refine Sq.idxInts sl56 one3 (Own.row ho) .plain rfl rfl rfl .plain rfl rfl (by omega) (by omega) ?_
      refine Sq.lss .plain rfl rfl rfl ?_
      refine Sq.part (fun hlt => ?_) (fun hlt => ?_)
      · refine Sq.move .plain rfl rfl ?_
        refine Sq.move (.met rfl rfl rfl) rfl rfl ?_
        refine Sq.move (.met rfl rfl rfl) rfl rfl ?_
        obtain ⟨pq4, rq4, hpq4, hrq4⟩ := Read3.at (hm.ext E) (i := i) (by first | omega | (simp; omega)) (by first | omega | (simp; omega))
        refine Sq.val (.met rfl rfl rfl) rfl rfl (Still.at' sl122 hpq4 rfl rfl) ?_
        refine Sq.val (.met rfl rfl rfl) rfl rfl (Still.loadA one23 rfl hpq4.1) ?_
        refine Sq.move (.met rfl rfl rfl) rfl rfl ?_
        refine Sq.move (.met rfl rfl rfl) rfl rfl ?_
        refine Sq.sub (.met rfl rfl rfl) rfl rfl rfl (by omega) ?_
        refine Sq.call fn135 (.met rfl rfl rfl) rfl rfl (l4Near_c _ _ _ ((((List.range n).map fun (q : Nat) => L.map fun x => [f (q : Int) x]).getD i.toNat [])) (dsAt f L G n d i.toNat) (dI - 1) hrq4 (Own.row ho) (mv_ok hf hLl (by omega)) (by rw [moves_f (q := i) (by omega), List.length_map]; omega)) ?_
        rintro _ w6 ⟨rfl, e7⟩
        have hs8 := Below.size E
        have hs9 := Below.size e7
        replace E := E.trans e7
        replace hgo := grown_trans hgo (Ext.to_grown e7 _)
        replace ho := ho.ext e7
        refine Sq.partB (fun hnr => ?_) (fun hnr => ?_)
        · refine Sq.pickT .plain rfl rfl rfl ?_
          refine Sq.nil ?_
          refine Eq.next ?_
          refine Cq.thn rfl ?_
          refine Cq.seq ?_
          refine Cq.region ?_
          refine Sq.move .plain rfl rfl ?_
          refine Sq.move .plain rfl rfl ?_
          refine Sq.move .plain rfl rfl ?_
          obtain ⟨p10, hp11o⟩ := Own.at ho (i := i) (by omega) (by first | (simp only [List.length_map]; omega) | (simp; omega))
          refine Sq.atO sl56 hp11o .plain rfl rfl rfl ?_
          refine Sq.storeO one3 ho hp11o .plain rfl rfl rfl (fun w12 g13 ho14 => ?_)
          have hs15 := World.grownBy.size g13
          replace E := E.owned ho g13 (by omega)
          replace hgo := grown_trans hgo g13
          replace ho := ho14
          refine Sq.nil ?_
          refine Eq.next ?_
          refine Cq.region ?_
          refine Sq.assign .plain rfl rfl ?_
          refine Sq.nil ?_
          refine Eq.end ?_
          refine Eq.next ?_
          refine Cq.region ?_
          refine Sq.move .plain rfl rfl ?_
          refine Sq.add .plain rfl rfl rfl (by omega) ?_
          refine Sq.assign .plain rfl rfl ?_
          refine Sq.nil ?_
          have hlt' : disTo f L G d i < 0 := by rw [dsAt_get (q := i) (by omega), if_neg (by omega)] at hlt; exact hlt
          have ei : ((i.toNat : Nat) : Int) = i := Int.toNat_of_nonneg hi.1
          rw [show dI - 1 = (d : Int) by omega, moves_f (q := i) (by omega), nearX_eq (n := n) hf i] at hnr
          have hk1 := disTo_new hlt' hnr
          have hk2 : disTo f L G (d + 1) ((i.toNat : Nat) : Int) = dI := by rw [ei, hk1]; omega
          have htl := todo_less (f := f) (L := L) (G := G) (d := d) (i := i.toNat) (n := n) (by omega) (by rw [ei]; exact hlt') (by rw [ei, hk1]; omega)
          refine Eq.round _ _ ⟨i + 1, true, rfl, by omega, by rw [toNat_succ hi.1, ← dsAt_set (by omega), List.map_set, hk2]; exact ho, fun _ => by rw [toNat_succ hi.1]; omega, fun h => absurd h (by decide), by rw [toNat_succ hi.1]; omega, E, hgo, rfl⟩ (by omega) (.cons rfl (.cons rfl (.cons rfl (.cons rfl (.cons rfl (.nil))))))
        refine Sq.pickT .plain rfl rfl rfl ?_
        refine Sq.nil ?_
        refine Eq.next ?_
        refine Cq.els rfl ?_
        refine Cq.skip ?_
        refine Eq.end ?_
        refine Eq.next ?_
        refine Cq.region ?_
        refine Sq.move .plain rfl rfl ?_
        refine Sq.add .plain rfl rfl rfl (by omega) ?_
        refine Sq.assign .plain rfl rfl ?_
        refine Sq.nil ?_
        have hlt' : disTo f L G d i < 0 := by rw [dsAt_get (q := i) (by omega), if_neg (by omega)] at hlt; exact hlt
        have ei : ((i.toNat : Nat) : Int) = i := Int.toNat_of_nonneg hi.1
        rw [show dI - 1 = (d : Int) by omega, moves_f (q := i) (by omega), nearX_eq (n := n) hf i] at hnr
        have hk1 := disTo_far hlt' hnr
        have hk2 : disTo f L G (d + 1) ((i.toNat : Nat) : Int) = disTo f L G d ((i.toNat : Nat) : Int) := by rw [ei, hk1]; rcases disTo_cases (f := f) (L := L) (G := G) d i with h | ⟨z, h, _⟩; exact h.symm; omega
        refine Eq.round _ _ ⟨i + 1, m2, rfl, by omega, by rw [toNat_succ hi.1, dsAt_keep hk2]; exact ho, fun h => by rw [toNat_succ hi.1, todo_keep hk2]; exact hmt h, fun h => dis_more ei (hmf h) hk2 (toNat_succ hi.1), by rw [toNat_succ hi.1, todo_keep hk2]; exact hml, E, hgo, rfl⟩ (by omega) (.cons rfl (.cons rfl (.cons rfl (.cons rfl (.cons rfl (.nil))))))
      refine Sq.move .plain rfl rfl ?_
      refine Sq.off rfl rfl rfl rfl rfl rfl ?_
      refine Sq.off rfl rfl rfl rfl rfl rfl ?_
      refine Sq.off rfl rfl rfl rfl rfl rfl ?_
      refine Sq.off rfl rfl rfl rfl rfl rfl ?_
      refine Sq.off rfl rfl rfl rfl rfl rfl ?_
      refine Sq.off rfl rfl rfl rfl rfl rfl ?_
      refine Sq.off rfl rfl rfl rfl rfl rfl ?_
      refine Sq.off rfl rfl rfl rfl rfl rfl ?_
      refine Sq.pickF .plain rfl rfl rfl ?_
      refine Sq.nil ?_
      refine Eq.next ?_
      refine Cq.els rfl ?_
      refine Cq.skip ?_
      refine Eq.end ?_
      refine Eq.next ?_
      refine Cq.region ?_
      refine Sq.move .plain rfl rfl ?_
      refine Sq.add .plain rfl rfl rfl (by omega) ?_
      refine Sq.assign .plain rfl rfl ?_
      refine Sq.nil ?_
      have hk1 : disTo f L G (d + 1) i = disTo f L G d i := disTo_old (by rw [dsAt_get (q := i) (by omega), if_neg (by omega)] at hlt; omega)
      have ei : ((i.toNat : Nat) : Int) = i := Int.toNat_of_nonneg hi.1
      have hk2 : disTo f L G (d + 1) ((i.toNat : Nat) : Int) = disTo f L G d ((i.toNat : Nat) : Int) := by rw [ei]; exact hk1
      refine Eq.round _ _ ⟨i + 1, m2, rfl, by omega, by rw [toNat_succ hi.1, dsAt_keep hk2]; exact ho, fun h => by rw [toNat_succ hi.1, todo_keep hk2]; exact hmt h, fun h => dis_more ei (hmf h) hk2 (toNat_succ hi.1), by rw [toNat_succ hi.1, todo_keep hk2]; exact hml, E, hgo, rfl⟩ (by omega) (.cons rfl (.cons rfl (.cons rfl (.cons rfl (.cons rfl (.nil))))))
    refine Sq.nil ?_
    refine Eq.next ?_
    refine Cq.els rfl ?_
    refine Cq.exit ?_
    refine Eq.past ?_
    refine Eq.past ?_
    refine Eq.hit ?_
    refine Eq.end ?_
    refine Eq.next ?_
    refine Cq.region ?_
    refine Sq.move .plain rfl rfl ?_
    refine Sq.add .plain rfl rfl rfl (by omega) ?_
    refine Sq.assign .plain rfl rfl ?_
    refine Sq.nil ?_
    have en : i.toNat = n := by omega
    rw [en] at ho hmt hmf hml
    rw [dsAt_all (Nat.le_refl _)] at ho
    have etd := todo_round (f := f) (L := L) (G := G) (n := n) d n (Nat.le_refl _)
    rw [etd] at hmt hml
    have hst2 : m2 = false → dsOf f L G n (d + 1) = dsOf f L G n d := fun h => dsOf_same (hmf h)
    refine Eq.round _ _ ⟨d + 1, m2, _, rfl, ho, by omega, fun h => by have := hmt h; have := hdn hmore; omega, fun h => ⟨d, by have := hdn hmore; omega, hst2 h, dis_all (hmf h)⟩, E, hgo, rfl⟩ (by rw [if_pos hmore]; cases m2 with | true => (have := hmt rfl; simp; omega) | false => (simp; omega)) (.cons rfl (.cons rfl (.cons rfl (.cons rfl (.nil)))))
  refine Sq.nil ?_
  refine Eq.next ?_
  refine Cq.els rfl ?_
  refine Cq.exit ?_
  refine Eq.past ?_
  refine Eq.past ?_
  refine Eq.hit ?_
  refine Eq.fall0 rfl ?_
  obtain ⟨d', e0, e1, e2⟩ := hst (by assumption)
  rw [e1] at ho
  exact ⟨rfl, ⟨d', e0, ho, e2⟩, hgo⟩
end Go.Proofs.Ytdejmfkpohgamaa
set_option linter.unusedSimpArgs false
set_option linter.unusedVariables false
namespace Go.Proofs.Ytdejmfkpohgamaa
open Go.RowKit
set_option maxRecDepth 100000 in
theorem l4Closer_c (w0 : World) (mv dv av : Value) (xsss : List (List (List Int))) (ds : List Int) (q k d t : Int) (hm : Read3 w0 23 56 3 mv xsss) (hd : Ints w0 3 dv ds) (ha : Ints w0 3 av [q]) (hq : 0 ≤ q ∧ q < xsss.length) (hk : 0 ≤ k ∧ k < (xsss.getD q.toNat []).length) (ht : (xsss.getD q.toNat []).getD k.toNat [] = [t]) (htb : 0 ≤ t ∧ t < (ds.length : Int)) : Ret Try.prog 124 #[mv, dv, av, Value.int .i64 k, Value.int .i64 d] w0 (fun v w => Own w w0.heap.size 3 v ((if ds.getD t.toNat 0 = d then [t] else []).map (Value.int .i64)) ∧ Ext w0 w) := by
  have E := Ext.refl w0
  obtain ⟨p1, r1, hp1, hr1⟩ := Read3.at hm (i := q) (by omega) (by omega)
  obtain ⟨p2, r2, hp2, hr2⟩ := Rows.at hr1 (i := k) (by omega) (by omega)
  rw [ht] at hr2
  have hl1 : (List.length ([q] : List Int) : Int) = 1 := rfl
  have hl2 : (List.length ([t] : List Int) : Int) = 1 := rfl
  refine Ret.of (args := [mv, dv, av, Value.int .i64 k, Value.int .i64 d]) Try.func124 rfl rfl rfl ?_
  rintro _ rfl
  show Cq _ _ _ _ [(0, mv), (1, dv), (2, av), (3, Value.int .i64 k), (4, Value.int .i64 d)] _
  refine Cq.seq ?_
  refine Cq.region ?_
  refine Sq.assign .plain rfl rfl ?_
  refine Sq.nil ?_
  refine Eq.next ?_
  refine Cq.seq ?_
  refine Cq.region ?_
  refine Sq.lit sl56 rfl rfl .plain rfl rfl one_nil (fun b1 w2 e3 hlo4 ho5 _ => ?_)
  replace ho5 := ho5 w0.heap.size (Nat.le_refl _)
  have hs7 := Below.size e3
  replace E := E.trans e3
  refine Sq.assign .plain rfl rfl ?_
  refine Sq.nil ?_
  refine Eq.next ?_
  refine Cq.seq ?_
  refine Cq.seq ?_
  refine Cq.region ?_
  refine Sq.assign .plain rfl rfl ?_
  refine Sq.nil ?_
  refine Eq.next ?_
  refine Cq.block ?_
  refine Cq.loop (fun nn w ls => ∃ (j : Int), ∃ (ov : Value), ∃ (xs : List Int), ls = [(0, mv), (1, dv), (2, av), (3, Value.int .i64 k), (4, Value.int .i64 d), (11, ov), (12, Value.int .i64 j)] ∧ (0 ≤ j ∧ j ≤ 1) ∧ Own w w0.heap.size 3 ov (xs.map (Value.int .i64)) ∧ xs = (if j = 0 then [] else (if ds.getD t.toNat 0 = d then [t] else [])) ∧ Ext w0 w ∧ nn = (1 - j).toNat) _ _ ⟨0, _, [], rfl, by omega, Own.mono ho5 (by omega), rfl, E, rfl⟩ (.cons rfl (.cons rfl (.cons rfl (.cons rfl (.cons rfl (.cons rfl (.cons rfl (.nil)))))))) ?_
  rintro nn wl1 ls ⟨j, ov, xs, rfl, hj, ho, hxs, E, rfl⟩
  have hs8 := Below.size E
  refine Cq.seq ?_
  refine Cq.seq ?_
  refine Cq.region ?_
  refine Sq.move .plain rfl rfl ?_
  refine Sq.move .plain rfl rfl ?_
  refine Sq.lenInts (ha.ext E) .plain rfl und56 rfl ?_
  refine Sq.lss .plain rfl rfl rfl ?_
  refine Sq.part (fun c9 => ?_) (fun c9 => ?_)
  · refine Sq.nil ?_
    refine Eq.next ?_
    refine Cq.thn rfl ?_
    refine Cq.skip ?_
    refine Eq.next ?_
    refine Cq.seq ?_
    refine Cq.block ?_
    refine Cq.seq ?_
    refine Cq.region ?_
    refine Sq.move .plain rfl rfl ?_
    refine Sq.move .plain rfl rfl ?_
    refine Sq.move .plain rfl rfl ?_
    have hj0 : j = 0 := by omega
    have hqj : ([q] : List Int).getD j.toNat 0 = q := by rw [hj0]; rfl
    refine Sq.idxInts sl56 one3 (ha.ext E) .plain rfl rfl rfl .plain rfl rfl (by omega) (by simp only [List.length_singleton]; omega) ?_
    rw [hqj]
    refine Sq.val .plain rfl rfl (Still.at' sl122 (hp1.ext E) rfl rfl) ?_
    refine Sq.val .plain rfl rfl (Still.loadA one23 rfl (hp1.ext E).1) ?_
    refine Sq.move .plain rfl rfl ?_
    refine Sq.val .plain rfl rfl (Still.at' sl23 (hp2.ext E) rfl rfl) ?_
    refine Sq.val .plain rfl rfl (Still.loadA one56 rfl (hp2.ext E).1) ?_
    refine Sq.assign .plain rfl rfl ?_
    refine Sq.nil ?_
    refine Eq.next ?_
    refine Cq.seq ?_
    refine Cq.region ?_
    refine Sq.assign .plain rfl rfl ?_
    refine Sq.nil ?_
    refine Eq.next ?_
    refine Cq.block ?_
    refine Cq.loop (fun nn w ls => ∃ (m : Int), ∃ (ov2 : Value), ∃ (xs2 : List Int), ls = [(0, mv), (1, dv), (2, av), (3, Value.int .i64 k), (4, Value.int .i64 d), (11, ov2), (12, Value.int .i64 j), (13, r2), (14, Value.int .i64 m)] ∧ (0 ≤ m ∧ m ≤ 1) ∧ Own w w0.heap.size 3 ov2 (xs2.map (Value.int .i64)) ∧ xs2 = (if m = 0 then [] else (if ds.getD t.toNat 0 = d then [t] else [])) ∧ Ext w0 w ∧ nn = (1 - m).toNat) _ _ ⟨0, _, xs, rfl, by omega, ho, by rw [hxs, if_pos hj0, if_pos rfl], E, rfl⟩ (.cons rfl (.cons rfl (.cons rfl (.cons rfl (.cons rfl (.cons rfl (.cons rfl (.cons rfl (.cons rfl (.nil)))))))))) ?_
    rintro nn wl2 ls ⟨m, ov2, xs2, rfl, hm, ho, hxs2, E, rfl⟩
    have hs10 := Below.size E
    have hx2 : xs2.length ≤ 1 := by rw [hxs2]; split; decide; split <;> simp
    refine Cq.seq ?_
    refine Cq.seq ?_
    refine Cq.region ?_
    refine Sq.move .plain rfl rfl ?_
    refine Sq.move .plain rfl rfl ?_
    refine Sq.lenInts (hr2.ext E) .plain rfl und56 rfl ?_
    refine Sq.lss .plain rfl rfl rfl ?_
    refine Sq.part (fun c11 => ?_) (fun c11 => ?_)
    · refine Sq.nil ?_
      refine Eq.next ?_
      refine Cq.thn rfl ?_
      refine Cq.skip ?_
      refine Eq.next ?_
      refine Cq.seq ?_
      refine Cq.block ?_
      refine Cq.seq ?_
      refine Cq.region ?_
      refine Sq.move .plain rfl rfl ?_
      refine Sq.move .plain rfl rfl ?_
      refine Sq.move .plain rfl rfl ?_
      have hm0 : m = 0 := by omega
      have htm : ([t] : List Int).getD m.toNat 0 = t := by rw [hm0]; rfl
      refine Sq.idxInts sl56 one3 (hr2.ext E) .plain rfl rfl rfl .plain rfl rfl (by omega) (by simp only [List.length_singleton]; omega) ?_
      rw [htm]
      refine Sq.idxInts sl56 one3 (hd.ext E) .plain rfl rfl rfl .plain rfl rfl (by omega) (by omega) ?_
      refine Sq.move .plain rfl rfl ?_
      refine Sq.eql .plain rfl rfl rfl ?_
      refine Sq.part (fun hde => ?_) (fun hde => ?_)
      · refine Sq.move .plain rfl rfl ?_
        refine Sq.move (.met rfl rfl rfl) rfl rfl ?_
        refine Sq.move (.met rfl rfl rfl) rfl rfl ?_
        refine Sq.move (.met rfl rfl rfl) rfl rfl ?_
        refine Sq.idxInts sl56 one3 (hr2.ext E) (.met rfl rfl rfl) rfl rfl rfl (.met rfl rfl rfl) rfl rfl (by omega) (by simp only [List.length_singleton]; omega) ?_
        rw [htm]
        refine Sq.call fn125 (.met rfl rfl rfl) rfl rfl (l4In_c _ xs2 _ (Own.row ho) t (by omega)) ?_
        rintro _ _ ⟨rfl, rfl⟩
        refine Sq.isF (by rw [hxs2, if_pos hm0]; simp) ?_
        refine Sq.notF (.met rfl rfl rfl) rfl rfl ?_
        refine Sq.pickT .plain rfl rfl rfl ?_
        refine Sq.nil ?_
        refine Eq.next ?_
        refine Cq.thn rfl ?_
        refine Cq.region ?_
        refine Sq.move .plain rfl rfl ?_
        refine Sq.move .plain rfl rfl ?_
        refine Sq.move .plain rfl rfl ?_
        refine Sq.idxInts sl56 one3 (hr2.ext E) .plain rfl rfl rfl .plain rfl rfl (by omega) (by simp only [List.length_singleton]; omega) ?_
        rw [htm]
        refine Sq.app1 sl56 ho (by omega) (by rw [List.length_map]; omega) .plain rfl rfl rfl rfl rfl rfl rfl (fun v12 w13 ho15 g14 _ => ?_)
        have hs16 := g14.size
        replace E := E.owned ho g14 (by omega)
        refine Sq.assign .plain rfl rfl ?_
        refine Sq.nil ?_
        refine Eq.end ?_
        refine Eq.next ?_
        refine Cq.region ?_
        refine Sq.move .plain rfl rfl ?_
        refine Sq.add .plain rfl rfl rfl (by omega) ?_
        refine Sq.assign .plain rfl rfl ?_
        refine Sq.nil ?_
        have hx20 : xs2 = [] := by rw [hxs2, if_pos hm0]
        subst hx20
        refine Eq.round _ _ ⟨m + 1, _, [t], rfl, by omega, by simpa using ho15, by rw [if_neg (by omega), if_pos hde], E, rfl⟩ (by omega) (.cons rfl (.cons rfl (.cons rfl (.cons rfl (.cons rfl (.cons rfl (.cons rfl (.cons rfl (.cons rfl (.nil))))))))))
      refine Sq.move .plain rfl rfl ?_
      refine Sq.off rfl rfl rfl rfl rfl rfl ?_
      refine Sq.off rfl rfl rfl rfl rfl rfl ?_
      refine Sq.off rfl rfl rfl rfl rfl rfl ?_
      refine Sq.off rfl rfl rfl rfl rfl rfl ?_
      refine Sq.off rfl rfl rfl rfl rfl rfl ?_
      refine Sq.off rfl rfl rfl rfl rfl rfl ?_
      refine Sq.off rfl rfl rfl rfl rfl rfl ?_
      refine Sq.pickF .plain rfl rfl rfl ?_
      refine Sq.nil ?_
      refine Eq.next ?_
      refine Cq.els rfl ?_
      refine Cq.skip ?_
      refine Eq.end ?_
      refine Eq.next ?_
      refine Cq.region ?_
      refine Sq.move .plain rfl rfl ?_
      refine Sq.add .plain rfl rfl rfl (by omega) ?_
      refine Sq.assign .plain rfl rfl ?_
      refine Sq.nil ?_
      have hx20 : xs2 = [] := by rw [hxs2, if_pos hm0]
      subst hx20
      refine Eq.round _ _ ⟨m + 1, _, [], rfl, by omega, ho, by rw [if_neg (by omega), if_neg hde], E, rfl⟩ (by omega) (.cons rfl (.cons rfl (.cons rfl (.cons rfl (.cons rfl (.cons rfl (.cons rfl (.cons rfl (.cons rfl (.nil))))))))))
    refine Sq.nil ?_
    refine Eq.next ?_
    refine Cq.els rfl ?_
    refine Cq.exit ?_
    refine Eq.past ?_
    refine Eq.past ?_
    refine Eq.hit ?_
    refine Eq.end ?_
    refine Eq.next ?_
    refine Cq.region ?_
    refine Sq.move .plain rfl rfl ?_
    refine Sq.add .plain rfl rfl rfl (by omega) ?_
    refine Sq.assign .plain rfl rfl ?_
    refine Sq.nil ?_
    have hm1 : m = 1 := by omega
    refine Eq.round _ _ ⟨j + 1, _, xs2, rfl, by omega, ho, by rw [if_neg (by omega), hxs2, if_neg (by omega)], E, rfl⟩ (by omega) (.cons rfl (.cons rfl (.cons rfl (.cons rfl (.cons rfl (.cons rfl (.cons rfl (.nil))))))))
  refine Sq.nil ?_
  refine Eq.next ?_
  refine Cq.els rfl ?_
  refine Cq.exit ?_
  refine Eq.past ?_
  refine Eq.past ?_
  refine Eq.hit ?_
  refine Eq.next ?_
  refine Cq.seq ?_
  refine Cq.region ?_
  refine Sq.move .plain rfl rfl ?_
  refine Sq.assign .plain rfl rfl ?_
  refine Sq.nil ?_
  refine Eq.next ?_
  refine Cq.ret ?_
  refine Eq.ret1 rfl rfl ?_
  rw [hxs, if_neg (by omega)] at ho
  exact ⟨ho, E⟩
end Go.Proofs.Ytdejmfkpohgamaa
set_option linter.unusedSimpArgs false
set_option linter.unusedVariables false
namespace Go.Proofs.Ytdejmfkpohgamaa
open Go.RowKit
set_option maxHeartbeats 1000000 in
set_option maxRecDepth 100000 in
theorem l4Nexts_c (w0 : World) (aa : List A) (av sv : Value) (ss : List Int) (lt kd gl : Int) (hN : NetA w0 26 56 3 4 av aa) (hS : Ints w0 3 sv ss) (r u : Value) (st : List Int) (hr : Ints w0 3 r (szs aa)) (hu : Ints w0 3 u st) (hok : NetOk aa) (hst : StOk (szs aa) st) (hsl : st.length = aa.length) (x : Int) (hx : 0 ≤ x ∧ x < 6) : Ret Try.prog 133 #[Value.agg #[Value.slice none 0 0, av, sv, Value.int .i64 lt, Value.int .i64 kd, Value.int .i64 gl], r, u, Value.int .i64 x] w0 (fun v w => Own w w0.heap.size 3 v [Value.int .i64 (encTo (szs aa) (goL aa st x) aa.length)] ∧ Ext w0 w) := by
  have E := Ext.refl w0
  have hlen := hok.1
  have hzl := szs_length aa
  refine Ret.of (args := [Value.agg #[Value.slice none 0 0, av, sv, Value.int .i64 lt, Value.int .i64 kd, Value.int .i64 gl], r, u, Value.int .i64 x]) Try.func133 rfl rfl rfl ?_
  rintro _ rfl
  show Cq _ _ _ _ [(0, Value.agg #[Value.slice none 0 0, av, sv, Value.int .i64 lt, Value.int .i64 kd, Value.int .i64 gl]), (1, r), (2, u), (3, Value.int .i64 x)] _
  refine Cq.seq ?_
  refine Cq.region ?_
  refine Sq.box .plain rfl rfl (fun b1 w2 e3 hB4 hlo5 => ?_)
  have hd6 := Nat.le_trans (Below.size E) hlo5
  have hs7 := Below.size e3
  replace E := E.trans e3
  refine Sq.assign .plain rfl rfl ?_
  refine Sq.nil ?_
  refine Eq.next ?_
  refine Cq.seq ?_
  refine Cq.region ?_
  refine Sq.lit sl56 rfl rfl .plain rfl rfl (one_cons rfl one_nil) (fun b8 w9 e10 hlo11 ho12 _ => ?_)
  replace ho12 := ho12 w2.heap.size (Nat.le_refl _)
  have hs14 := Below.size e10
  replace E := E.trans e10
  replace hB4 := hB4.ext e10
  refine Sq.assign .plain rfl rfl ?_
  refine Sq.nil ?_
  refine Eq.next ?_
  refine Cq.seq ?_
  refine Cq.seq ?_
  refine Cq.region ?_
  refine Sq.assign .plain rfl rfl ?_
  refine Sq.nil ?_
  refine Eq.next ?_
  refine Cq.block ?_
  refine Cq.loop (fun nn w ls => ∃ (k : Int), ∃ (ov : Value), ls = [(1, r), (2, u), (3, Value.int .i64 x), (4, Value.pointer (some ⟨b1, 0, none⟩)), (9, ov), (10, Value.int .i64 k)] ∧ (0 ≤ k ∧ k ≤ st.length) ∧ Own w w0.heap.size 3 ov (([(encTo (szs aa) (goL aa st x) k.toNat)] : List Int).map (Value.int .i64)) ∧ Ext w0 w ∧ Blk w b1 105 [Value.slice none 0 0, av, sv, Value.int .i64 lt, Value.int .i64 kd, Value.int .i64 gl] ∧ nn = ((st.length : Int) - k).toNat) _ _ ⟨0, _, rfl, by omega, Own.mono ho12 (by omega), E, hB4, rfl⟩ (.cons rfl (.cons rfl (.cons rfl (.cons rfl (.cons rfl (.cons rfl (.nil))))))) ?_
  rintro nn wl1 ls ⟨k, ov, rfl, hk, ho, E, hB4, rfl⟩
  have hs15 := Below.size E
  have hlow9 := Own.low ho
  refine Cq.seq ?_
  refine Cq.seq ?_
  refine Cq.region ?_
  refine Sq.move .plain rfl rfl ?_
  refine Sq.move .plain rfl rfl ?_
  refine Sq.lenInts (hu.ext E) .plain rfl und56 rfl ?_
  refine Sq.lss .plain rfl rfl rfl ?_
  refine Sq.part (fun c16 => ?_) (fun c16 => ?_)
  · refine Sq.nil ?_
    refine Eq.next ?_
    refine Cq.thn rfl ?_
    refine Cq.skip ?_
    refine Eq.next ?_
    refine Cq.seq ?_
    refine Cq.block ?_
    refine Cq.seq ?_
    obtain ⟨phpA, hpA⟩ := Ints.at hu (i := k) (by omega) (by omega)
    replace hpA := hpA.ext E
    have hstk := st_at hst (k := k.toNat) (by omega)
    have hgk : (goL aa st x).getD k.toNat 0 = _ := goL_at (k := k.toNat) (by omega)
    have hng := net_at hok (k := k.toNat) (by omega)
    refine Cq.drawS 8 (fun w' => Blk w' b1 105 [Value.slice none 0 0, av, sv, Value.int .i64 lt, Value.int .i64 kd, Value.int .i64 gl] ∧ At w' 3 u k phpA (.int .i64 (st.getD k.toNat 0)) ∧ Ext w0 w') mixed (⟨hB4, hpA, E⟩) (fun w17 e18 hS => ?_)
    clear hS
    have hs19 := Below.size e18
    replace E := E.trans e18
    replace hB4 := hB4.ext e18
    replace ho := ho.ext e18
    replace hpA := hpA.ext e18
    refine Gq.st 0 rfl (by kernel_rfl) rfl .plain rfl (fun _ _ _ h => h) ⟨hB4, hpA, E⟩ (fun w' x => Still.loadAgg agg105 rfl x.1 rfl) ?_
    refine Gq.st 1 rfl (by kernel_rfl) rfl .plain rfl (fun _ _ _ h => h) ⟨hB4, hpA, E⟩ (fun w' x => Still.move rfl) ?_
    refine Gq.st 2 rfl (by kernel_rfl) rfl .plain rfl (fun _ _ _ h => h) ⟨hB4, hpA, E⟩ (fun w' x => Still.move rfl) ?_
    refine Gq.st 3 rfl (by kernel_rfl) rfl .plain rfl (fun _ _ _ h => h) ⟨hB4, hpA, E⟩ (fun w' x => Still.move rfl) ?_
    refine Gq.st 4 rfl (by kernel_rfl) rfl .plain rfl (fun _ _ _ h => h) ⟨hB4, hpA, E⟩ (fun w' x => Still.at' sl56 hpA rfl rfl) ?_
    refine Gq.st 5 rfl (by kernel_rfl) rfl .plain rfl (fun _ _ _ h => h) ⟨hB4, hpA, E⟩ (fun w' x => Still.loadA one3 rfl (x.2.1).1) ?_
    refine Gq.st 6 rfl (by kernel_rfl) rfl .plain rfl (fun _ _ _ h => h) ⟨hB4, hpA, E⟩ (fun w' x => Still.move rfl) ?_
    refine Gq.one 7 rfl (by kernel_rfl) ?_
    have hd24 := hB4.lt
    refine Sq.call fn136 .plain rfl rfl (l4Choices_c _ aa av sv ss lt kd gl (hN.ext E) (hS.ext E) hok k (st.getD k.toNat 0) x (by omega) (by first | omega | exact hstk) (by omega)) ?_
    rintro v20 w21 ⟨ho23, e22⟩
    have hs25 := Below.size E
    have hs26 := Below.size e22
    replace E := E.trans e22
    replace hB4 := hB4.ext e22
    replace ho := ho.ext e22
    replace hpA := hpA.ext e22
    replace ho23 : Own w21 w17.heap.size 3 v20 (([goA (aa.getD k.toNat zeroA) (st.getD k.toNat 0) x] : List Int).map (Value.int .i64)) := ho23
    refine Sq.nil ?_
    refine Eq.goes (fun _ => ⟨hB4, hpA, E⟩) ?_
    refine Gq.one 8 rfl (by kernel_rfl) ?_
    refine Sq.assign .plain rfl rfl ?_
    refine Sq.nil ?_
    refine Eq.goes (fun h => absurd h (by decide)) ?_
    refine Gq.done (by kernel_rfl) ?_
    refine Eq.next ?_
    refine Cq.seq ?_
    refine Cq.region ?_
    have hlowC := Own.low ho23
    refine Sq.lit sl56 rfl rfl .plain rfl rfl one_nil (fun b27 w28 e29 hlo30 ho31 _ => ?_)
    replace ho31 := ho31 w21.heap.size (Nat.le_refl _)
    have hs33 := Below.size e29
    replace E := E.trans e29
    replace hB4 := hB4.ext e29
    replace ho := ho.ext e29
    replace ho23 := ho23.ext e29
    refine Sq.assign .plain rfl rfl ?_
    refine Sq.nil ?_
    refine Eq.next ?_
    refine Cq.seq ?_
    refine Cq.seq ?_
    refine Cq.region ?_
    refine Sq.assign .plain rfl rfl ?_
    refine Sq.nil ?_
    refine Eq.next ?_
    refine Cq.block ?_
    refine Cq.loop (fun nn w ls => ∃ (j : Int), ∃ (nv : Value), ls = [(1, r), (2, u), (3, Value.int .i64 x), (4, Value.pointer (some ⟨b1, 0, none⟩)), (9, ov), (10, Value.int .i64 k), (11, v20), (12, nv), (13, Value.int .i64 j)] ∧ (0 ≤ j ∧ j ≤ 1) ∧ (w21.heap.size ≤ w.heap.size) ∧ Own w w21.heap.size 3 nv (if j = 0 then [] else [Value.int .i64 (encTo (szs aa) (goL aa st x) k.toNat * (szs aa).getD k.toNat 0 + goA (aa.getD k.toNat zeroA) (st.getD k.toNat 0) x)]) ∧ Ext w0 w ∧ Blk w b1 105 [Value.slice none 0 0, av, sv, Value.int .i64 lt, Value.int .i64 kd, Value.int .i64 gl] ∧ Own w w0.heap.size 3 ov (([(encTo (szs aa) (goL aa st x) k.toNat)] : List Int).map (Value.int .i64)) ∧ Own w w17.heap.size 3 v20 (([goA (aa.getD k.toNat zeroA) (st.getD k.toNat 0) x] : List Int).map (Value.int .i64)) ∧ nn = (1 - j).toNat) _ _ ⟨0, _, rfl, by omega, by omega, ho31, E, hB4, ho, ho23, rfl⟩ (.cons rfl (.cons rfl (.cons rfl (.cons rfl (.cons rfl (.cons rfl (.cons rfl (.cons rfl (.cons rfl (.nil)))))))))) ?_
    rintro nn wl2 ls ⟨j, nv, rfl, hj, hsz, hnv, E, hB4, ho, ho23, rfl⟩
    have hs34 := Below.size E
    have hl1 : (List.length ([(encTo (szs aa) (goL aa st x) k.toNat)] : List Int) : Int) = 1 := rfl
    refine Cq.seq ?_
    refine Cq.seq ?_
    refine Cq.region ?_
    refine Sq.move .plain rfl rfl ?_
    refine Sq.move .plain rfl rfl ?_
    refine Sq.lenInts (Own.row ho) .plain rfl und56 rfl ?_
    refine Sq.lss .plain rfl rfl rfl ?_
    refine Sq.part (fun c35 => ?_) (fun c35 => ?_)
    · refine Sq.nil ?_
      refine Eq.next ?_
      refine Cq.thn rfl ?_
      refine Cq.skip ?_
      refine Eq.next ?_
      refine Cq.seq ?_
      refine Cq.block ?_
      refine Cq.seq ?_
      refine Cq.region ?_
      refine Sq.assign .plain rfl rfl ?_
      refine Sq.nil ?_
      refine Eq.next ?_
      refine Cq.block ?_
      refine Cq.loop (fun nn w ls => ∃ (m : Int), ∃ (nv2 : Value), ls = [(1, r), (2, u), (3, Value.int .i64 x), (4, Value.pointer (some ⟨b1, 0, none⟩)), (9, ov), (10, Value.int .i64 k), (11, v20), (12, nv2), (13, Value.int .i64 j), (14, Value.int .i64 m)] ∧ (0 ≤ m ∧ m ≤ 1) ∧ (w21.heap.size ≤ w.heap.size) ∧ Own w w21.heap.size 3 nv2 (if m = 0 then [] else [Value.int .i64 (encTo (szs aa) (goL aa st x) k.toNat * (szs aa).getD k.toNat 0 + goA (aa.getD k.toNat zeroA) (st.getD k.toNat 0) x)]) ∧ Ext w0 w ∧ Blk w b1 105 [Value.slice none 0 0, av, sv, Value.int .i64 lt, Value.int .i64 kd, Value.int .i64 gl] ∧ Own w w0.heap.size 3 ov (([(encTo (szs aa) (goL aa st x) k.toNat)] : List Int).map (Value.int .i64)) ∧ Own w w17.heap.size 3 v20 (([goA (aa.getD k.toNat zeroA) (st.getD k.toNat 0) x] : List Int).map (Value.int .i64)) ∧ nn = (1 - m).toNat) _ _ ⟨0, _, rfl, by omega, by omega, by rw [if_pos (by omega)] at hnv; exact hnv, E, hB4, ho, ho23, rfl⟩ (.cons rfl (.cons rfl (.cons rfl (.cons rfl (.cons rfl (.cons rfl (.cons rfl (.cons rfl (.cons rfl (.cons rfl (.nil))))))))))) ?_
      rintro nn wl3 ls ⟨m, nv2, rfl, hm, hsz, hnv, E, hB4, ho, ho23, rfl⟩
      have hs36 := Below.size E
      have heb := enc_bd (szs_ok hok) (goL_ok hok hst hx) (k := k.toNat) (by omega)
      have hsb := st_at (goL_ok hok hst hx) (k := k.toNat) (by omega)
      rw [hgk] at hsb
      have hl2 : (List.length ([goA (aa.getD k.toNat zeroA) (st.getD k.toNat 0) x] : List Int) : Int) = 1 := rfl
      refine Cq.seq ?_
      refine Cq.seq ?_
      refine Cq.region ?_
      refine Sq.move .plain rfl rfl ?_
      refine Sq.move .plain rfl rfl ?_
      refine Sq.lenInts (Own.row ho23) .plain rfl und56 rfl ?_
      refine Sq.lss .plain rfl rfl rfl ?_
      refine Sq.part (fun c37 => ?_) (fun c37 => ?_)
      · refine Sq.nil ?_
        refine Eq.next ?_
        refine Cq.thn rfl ?_
        refine Cq.skip ?_
        refine Eq.next ?_
        refine Cq.seq ?_
        refine Cq.block ?_
        have hj0 : j = 0 := by omega
        have hm0 : m = 0 := by omega
        obtain ⟨phpO, hpO⟩ := Ints.at (xs := [(encTo (szs aa) (goL aa st x) k.toNat)]) (Own.row ho) (i := j) (by omega) (by simp; omega)
        obtain ⟨phpC, hpC⟩ := Ints.at (xs := [goA (aa.getD k.toNat zeroA) (st.getD k.toNat 0) x]) (Own.row ho23) (i := m) (by omega) (by simp; omega)
        obtain ⟨phpS, hpS⟩ := Ints.at hr (i := k) (by omega) (by omega)
        have hlowS := Ints.low hr (by omega)
        replace hpS := hpS.ext E
        rw [show ([(encTo (szs aa) (goL aa st x) k.toNat)] : List Int).getD j.toNat 0 = (encTo (szs aa) (goL aa st x) k.toNat) by rw [hj0]; rfl] at hpO
        rw [show ([goA (aa.getD k.toNat zeroA) (st.getD k.toNat 0) x] : List Int).getD m.toNat 0 = goA (aa.getD k.toNat zeroA) (st.getD k.toNat 0) x by rw [hm0]; rfl] at hpC
        refine Cq.drawS 17 (fun w' => At w' 3 ov j phpO (.int .i64 (encTo (szs aa) (goL aa st x) k.toNat)) ∧ At w' 3 r k phpS (.int .i64 ((szs aa).getD k.toNat 0)) ∧ At w' 3 v20 m phpC (.int .i64 (goA (aa.getD k.toNat zeroA) (st.getD k.toNat 0) x)) ∧ Ext w0 w') mixed (⟨hpO, hpS, hpC, E⟩) (fun w38 e39 hS => ?_)
        clear hS
        have hs40 := Below.size e39
        replace E := E.trans e39
        replace hB4 := hB4.ext e39
        replace ho := ho.ext e39
        replace ho23 := ho23.ext e39
        replace hnv := hnv.ext e39
        replace hpO := hpO.ext e39
        replace hpS := hpS.ext e39
        replace hpC := hpC.ext e39
        refine Gq.st 0 rfl (by kernel_rfl) rfl .plain rfl (fun _ _ _ h => h) ⟨hpO, hpS, hpC, E⟩ (fun w' x => Still.move rfl) ?_
        refine Gq.st 1 rfl (by kernel_rfl) rfl .plain rfl (fun _ _ _ h => h) ⟨hpO, hpS, hpC, E⟩ (fun w' x => Still.move rfl) ?_
        refine Gq.st 2 rfl (by kernel_rfl) rfl .plain rfl (fun _ _ _ h => h) ⟨hpO, hpS, hpC, E⟩ (fun w' x => Still.move rfl) ?_
        refine Gq.st 3 rfl (by kernel_rfl) rfl .plain rfl (fun _ _ _ h => h) ⟨hpO, hpS, hpC, E⟩ (fun w' x => Still.at' sl56 hpO rfl rfl) ?_
        refine Gq.st 4 rfl (by kernel_rfl) rfl .plain rfl (fun _ _ _ h => h) ⟨hpO, hpS, hpC, E⟩ (fun w' x => Still.loadA one3 rfl (x.1).1) ?_
        refine Gq.st 5 rfl (by kernel_rfl) rfl .plain rfl (fun _ _ _ h => h) ⟨hpO, hpS, hpC, E⟩ (fun w' x => Still.move rfl) ?_
        refine Gq.st 6 rfl (by kernel_rfl) rfl .plain rfl (fun _ _ _ h => h) ⟨hpO, hpS, hpC, E⟩ (fun w' x => Still.move rfl) ?_
        refine Gq.st 7 rfl (by kernel_rfl) rfl .plain rfl (fun _ _ _ h => h) ⟨hpO, hpS, hpC, E⟩ (fun w' x => Still.at' sl56 hpS rfl rfl) ?_
        refine Gq.st 8 rfl (by kernel_rfl) rfl .plain rfl (fun _ _ _ h => h) ⟨hpO, hpS, hpC, E⟩ (fun w' x => Still.loadA one3 rfl (x.2.1).1) ?_
        refine Gq.st 9 rfl (by kernel_rfl) rfl .plain rfl (fun _ _ _ h => h) ⟨hpO, hpS, hpC, E⟩ (fun w' x => Still.mul rfl rfl (by omega)) ?_
        refine Gq.st 10 rfl (by kernel_rfl) rfl .plain rfl (fun _ _ _ h => h) ⟨hpO, hpS, hpC, E⟩ (fun w' x => Still.move rfl) ?_
        refine Gq.st 11 rfl (by kernel_rfl) rfl .plain rfl (fun _ _ _ h => h) ⟨hpO, hpS, hpC, E⟩ (fun w' x => Still.move rfl) ?_
        refine Gq.st 12 rfl (by kernel_rfl) rfl .plain rfl (fun _ _ _ h => h) ⟨hpO, hpS, hpC, E⟩ (fun w' x => Still.at' sl56 hpC rfl rfl) ?_
        refine Gq.st 13 rfl (by kernel_rfl) rfl .plain rfl (fun _ _ _ h => h) ⟨hpO, hpS, hpC, E⟩ (fun w' x => Still.loadA one3 rfl (x.2.2.1).1) ?_
        refine Gq.st 14 rfl (by kernel_rfl) rfl .plain rfl (fun _ _ _ h => h) ⟨hpO, hpS, hpC, E⟩ (fun w' x => Still.add rfl rfl (by omega)) ?_
        refine Gq.one 15 rfl (by kernel_rfl) ?_
        refine Sq.lit sl56 rfl rfl .plain rfl rfl (one_cons rfl one_nil) (fun b41 w42 e43 hlo44 ho45 _ => ?_)
        replace ho45 := ho45 w38.heap.size (Nat.le_refl _)
        have hs47 := Below.size e43
        replace E := E.trans e43
        replace hB4 := hB4.ext e43
        replace ho := ho.ext e43
        replace ho23 := ho23.ext e43
        replace hnv := hnv.ext e43
        replace hpO := hpO.ext e43
        replace hpS := hpS.ext e43
        replace hpC := hpC.ext e43
        refine Sq.nil ?_
        refine Eq.goes (fun _ => ⟨hpO, hpS, hpC, E⟩) ?_
        refine Gq.one 16 rfl (by kernel_rfl) ?_
        refine Sq.app sl56 hnv (by omega) (Own.row ho45) (one_cons rfl one_nil) (by first | omega | (split <;> simp)) .plain rfl rfl rfl rfl (fun v48 w49 ho51 g50 => ?_)
        have hs52 := g50.size
        replace E := E.owned hnv g50 (by omega)
        replace hB4 := hB4.owned hnv g50 (by decide)
        replace ho := ho.apart hlow9 hnv g50 (by omega)
        replace ho23 := ho23.apart hlowC hnv g50 (by omega)
        replace hpO := hpO.apart hlow9 hnv g50 (by omega)
        replace hpS := hpS.apart hlowS hnv g50 (by omega)
        replace hpC := hpC.apart hlowC hnv g50 (by omega)
        refine Sq.nil ?_
        refine Eq.goes (fun _ => ⟨hpO, hpS, hpC, E⟩) ?_
        refine Gq.one 17 rfl (by kernel_rfl) ?_
        refine Sq.assign .plain rfl rfl ?_
        refine Sq.nil ?_
        refine Eq.goes (fun h => absurd h (by decide)) ?_
        refine Gq.done (by kernel_rfl) ?_
        refine Eq.end ?_
        refine Eq.next ?_
        refine Cq.region ?_
        refine Sq.move .plain rfl rfl ?_
        refine Sq.add .plain rfl rfl rfl (by omega) ?_
        refine Sq.assign .plain rfl rfl ?_
        refine Sq.nil ?_
        refine Eq.round _ _ ⟨m + 1, _, rfl, by omega, by omega, by rw [if_neg (by omega)]; have h := ho51; rw [if_pos hm0] at h; exact h, E, hB4, ho, ho23, rfl⟩ (by omega) (.cons rfl (.cons rfl (.cons rfl (.cons rfl (.cons rfl (.cons rfl (.cons rfl (.cons rfl (.cons rfl (.cons rfl (.nil)))))))))))
      refine Sq.nil ?_
      refine Eq.next ?_
      refine Cq.els rfl ?_
      refine Cq.exit ?_
      refine Eq.past ?_
      refine Eq.past ?_
      refine Eq.hit ?_
      refine Eq.end ?_
      refine Eq.next ?_
      refine Cq.region ?_
      refine Sq.move .plain rfl rfl ?_
      refine Sq.add .plain rfl rfl rfl (by omega) ?_
      refine Sq.assign .plain rfl rfl ?_
      refine Sq.nil ?_
      have hm1 : m = 1 := by omega
      refine Eq.round _ _ ⟨j + 1, _, rfl, by omega, by omega, by rw [if_neg (by omega)]; rw [if_neg (by omega)] at hnv; exact hnv, E, hB4, ho, ho23, rfl⟩ (by omega) (.cons rfl (.cons rfl (.cons rfl (.cons rfl (.cons rfl (.cons rfl (.cons rfl (.cons rfl (.cons rfl (.nil))))))))))
    refine Sq.nil ?_
    refine Eq.next ?_
    refine Cq.els rfl ?_
    refine Cq.exit ?_
    refine Eq.past ?_
    refine Eq.past ?_
    refine Eq.hit ?_
    refine Eq.next ?_
    refine Cq.region ?_
    refine Sq.move .plain rfl rfl ?_
    refine Sq.assign .plain rfl rfl ?_
    refine Sq.nil ?_
    refine Eq.end ?_
    refine Eq.next ?_
    refine Cq.region ?_
    refine Sq.move .plain rfl rfl ?_
    refine Sq.add .plain rfl rfl rfl (by omega) ?_
    refine Sq.assign .plain rfl rfl ?_
    refine Sq.nil ?_
    have e1 := toNat_succ hk.1
    have hj1 : j = 1 := by omega
    refine Eq.round _ _ ⟨k + 1, _, rfl, by omega, by rw [e1, encTo, hgk]; rw [hj1] at hnv; exact Own.mono hnv (by omega), E, hB4, rfl⟩ (by omega) (.cons rfl (.cons rfl (.cons rfl (.cons rfl (.cons rfl (.cons rfl (.nil)))))))
  refine Sq.nil ?_
  refine Eq.next ?_
  refine Cq.els rfl ?_
  refine Cq.exit ?_
  refine Eq.past ?_
  refine Eq.past ?_
  refine Eq.hit ?_
  refine Eq.next ?_
  refine Cq.seq ?_
  refine Cq.region ?_
  refine Sq.move .plain rfl rfl ?_
  refine Sq.assign .plain rfl rfl ?_
  refine Sq.nil ?_
  refine Eq.next ?_
  refine Cq.ret ?_
  refine Eq.ret1 rfl rfl ?_
  have e2 : k.toNat = aa.length := by omega
  rw [e2] at ho
  exact ⟨ho, E⟩
end Go.Proofs.Ytdejmfkpohgamaa
set_option linter.unusedSimpArgs false
set_option linter.unusedVariables false
namespace Go.Proofs.Ytdejmfkpohgamaa
open Go.RowKit
set_option maxHeartbeats 1000000 in
set_option maxRecDepth 100000 in
theorem l4Moves_c (w0 : World) (aa : List A) (av sv : Value) (ss : List Int) (lt kd gl : Int) (hN : NetA w0 26 56 3 4 av aa) (hS : Ints w0 3 sv ss) (r : Value) (tot : Int) (hr : Ints w0 3 r (szs aa)) (hok : NetOk aa) (ht : tot = total aa) (hal : 0 ≤ lt ∧ lt ≤ 63) : Ret Try.prog 119 #[Value.agg #[Value.slice none 0 0, av, sv, Value.int .i64 lt, Value.int .i64 kd, Value.int .i64 gl], r, Value.int .i64 tot] w0 (fun v w => Read3 w 23 56 3 v (movesN aa (letters lt)) ∧ Ext w0 w) := by
  have E := Ext.refl w0
  have hlen := hok.1
  have hzl := szs_length aa
  have htb := total_bd hok
  have hlet := letters_len6 lt
  refine Ret.of (args := [Value.agg #[Value.slice none 0 0, av, sv, Value.int .i64 lt, Value.int .i64 kd, Value.int .i64 gl], r, Value.int .i64 tot]) Try.func119 rfl rfl rfl ?_
  rintro _ rfl
  show Cq _ _ _ _ [(0, Value.agg #[Value.slice none 0 0, av, sv, Value.int .i64 lt, Value.int .i64 kd, Value.int .i64 gl]), (1, r), (2, Value.int .i64 tot)] _
  refine Cq.seq ?_
  refine Cq.region ?_
  refine Sq.box .plain rfl rfl (fun b1 w2 e3 hB4 hlo5 => ?_)
  have hd6 := Nat.le_trans (Below.size E) hlo5
  have hs7 := Below.size e3
  replace E := E.trans e3
  refine Sq.assign .plain rfl rfl ?_
  refine Sq.nil ?_
  refine Eq.next ?_
  refine Cq.seq ?_
  refine Cq.region ?_
  refine Sq.lit sl122 rfl rfl .plain rfl rfl one_nil (fun b8 w9 e10 hlo11 ho12 _ => ?_)
  have hs13 := Below.size e10
  replace E := E.trans e10
  replace hB4 := hB4.ext e10
  have ho3 := Own3.nil w9 w0.heap.size w9.heap.size 23 56 3 (ho12 w0.heap.size (by omega))
  refine Sq.assign .plain rfl rfl ?_
  refine Sq.nil ?_
  refine Eq.next ?_
  refine Cq.seq ?_
  refine Cq.region ?_
  refine Sq.fieldAddr fld105_3 .plain rfl rfl ?_
  refine Sq.loadB one3 .plain rfl rfl hB4 rfl ?_
  have hd18 := hB4.lt
  refine Sq.call fn53 .plain rfl rfl (l1Letters_c lt (by omega) _) ?_
  rintro v14 w15 ⟨hl17, e16⟩
  have hs19 := Below.size E
  have hs20 := Below.size e16
  replace E := E.trans e16
  replace hB4 := hB4.ext e16
  replace ho3 := ho3.ext e16
  refine Sq.assign .plain rfl rfl ?_
  refine Sq.nil ?_
  refine Eq.next ?_
  refine Cq.seq ?_
  refine Cq.seq ?_
  refine Cq.region ?_
  refine Sq.assign .plain rfl rfl ?_
  refine Sq.nil ?_
  refine Eq.next ?_
  refine Cq.block ?_
  refine Cq.loop (fun nn w ls => ∃ (i : Int), ∃ (ov : Value), ls = [(1, r), (2, Value.int .i64 tot), (3, Value.pointer (some ⟨b1, 0, none⟩)), (7, ov), (8, v14), (9, Value.int .i64 i)] ∧ (0 ≤ i ∧ i ≤ tot) ∧ Own3 w w0.heap.size w.heap.size 23 56 3 ov ((List.range i.toNat).map fun (q : Nat) => (letters lt).map fun x => [fN aa (q : Int) x]) ∧ Ext w0 w ∧ Blk w b1 105 [Value.slice none 0 0, av, sv, Value.int .i64 lt, Value.int .i64 kd, Value.int .i64 gl] ∧ Own w w9.heap.size 3 v14 ((letters lt).map (Value.int .i64)) ∧ nn = (tot - i).toNat) _ _ ⟨0, _, rfl, by omega, Own3.now ho3, E, hB4, hl17, rfl⟩ (.cons rfl (.cons rfl (.cons rfl (.cons rfl (.cons rfl (.cons rfl (.nil))))))) ?_
  rintro nn wl1 ls ⟨i, ov, rfl, hi, ho3, E, hB4, hl17, rfl⟩
  have hs21 := Below.size E
  have hm3 := rfl (a := ((List.range i.toNat).map fun (q : Nat) => (letters lt).map fun x => [fN aa (q : Int) x]))
  refine Cq.seq ?_
  refine Cq.seq ?_
  refine Cq.region ?_
  refine Sq.move .plain rfl rfl ?_
  refine Sq.move .plain rfl rfl ?_
  refine Sq.lss .plain rfl rfl rfl ?_
  refine Sq.part (fun c22 => ?_) (fun c22 => ?_)
  · refine Sq.nil ?_
    refine Eq.next ?_
    refine Cq.thn rfl ?_
    refine Cq.skip ?_
    refine Eq.next ?_
    refine Cq.seq ?_
    refine Cq.block ?_
    refine Cq.seq ?_
    refine Cq.region ?_
    refine Sq.move .plain rfl rfl ?_
    refine Sq.move .plain rfl rfl ?_
    have hd27 := hB4.lt
    refine Sq.call fn121 .plain rfl rfl (l4Decode_c _ (szs aa) _ (hr.ext E) i (szs_ok hok) (by omega)) ?_
    rintro v23 w24 ⟨ho26, e25⟩
    have hs28 := Below.size E
    have hs29 := Below.size e25
    replace E := E.trans e25
    replace hB4 := hB4.ext e25
    replace hl17 := hl17.ext e25
    replace ho3 := ho3.ext e25
    refine Sq.assign .plain rfl rfl ?_
    refine Sq.nil ?_
    refine Eq.next ?_
    refine Cq.seq ?_
    refine Cq.region ?_
    refine Sq.lit sl23 rfl rfl .plain rfl rfl one_nil (fun b30 w31 e32 hlo33 ho34 _ => ?_)
    have hs35 := Below.size e32
    replace E := E.trans e32
    replace hB4 := hB4.ext e32
    replace hl17 := hl17.ext e32
    replace ho3 := ho3.ext e32
    replace ho26 := ho26.ext e32
    have hor := OwnRows.nil' w31 w24.heap.size w31.heap.size 56 3 (ho34 w24.heap.size (Nat.le_refl _))
    refine Sq.assign .plain rfl rfl ?_
    refine Sq.nil ?_
    refine Eq.next ?_
    refine Cq.seq ?_
    refine Cq.seq ?_
    refine Cq.region ?_
    refine Sq.assign .plain rfl rfl ?_
    refine Sq.nil ?_
    refine Eq.next ?_
    refine Cq.block ?_
    refine Cq.loop (fun nn w ls => ∃ (m : Int), ∃ (rv : Value), ls = [(1, r), (2, Value.int .i64 tot), (3, Value.pointer (some ⟨b1, 0, none⟩)), (7, ov), (8, v14), (9, Value.int .i64 i), (10, v23), (11, rv), (12, Value.int .i64 m)] ∧ (0 ≤ m ∧ m ≤ (letters lt).length) ∧ (w24.heap.size ≤ w.heap.size) ∧ OwnRows w w24.heap.size w.heap.size 56 3 rv (((letters lt).take m.toNat).map fun x => [fN aa i x]) ∧ Own3 w w0.heap.size wl1.heap.size 23 56 3 ov ((List.range i.toNat).map fun (q : Nat) => (letters lt).map fun x => [fN aa (q : Int) x]) ∧ Ext w0 w ∧ Blk w b1 105 [Value.slice none 0 0, av, sv, Value.int .i64 lt, Value.int .i64 kd, Value.int .i64 gl] ∧ Own w w9.heap.size 3 v14 ((letters lt).map (Value.int .i64)) ∧ Own w wl1.heap.size 3 v23 ((decL (szs aa) i).map (Value.int .i64)) ∧ nn = (((letters lt).length : Int) - m).toNat) _ _ ⟨0, _, rfl, by omega, by omega, hor, ho3, E, hB4, hl17, ho26, rfl⟩ (.cons rfl (.cons rfl (.cons rfl (.cons rfl (.cons rfl (.cons rfl (.cons rfl (.cons rfl (.cons rfl (.nil)))))))))) ?_
    rintro nn wl2 ls ⟨m, rv, rfl, hm, hsz, hor, ho3, E, hB4, hl17, ho26, rfl⟩
    have hs36 := Below.size E
    refine Cq.seq ?_
    refine Cq.seq ?_
    refine Cq.region ?_
    refine Sq.move .plain rfl rfl ?_
    refine Sq.move .plain rfl rfl ?_
    refine Sq.lenInts (Own.row hl17) .plain rfl und56 rfl ?_
    refine Sq.lss .plain rfl rfl rfl ?_
    refine Sq.part (fun c37 => ?_) (fun c37 => ?_)
    · refine Sq.nil ?_
      refine Eq.next ?_
      refine Cq.thn rfl ?_
      refine Cq.skip ?_
      refine Eq.next ?_
      refine Cq.seq ?_
      refine Cq.block ?_
      have hlx := letters_at lt (k := m.toNat) (by omega)
      obtain ⟨phpL, hpL⟩ := Ints.at (Own.row hl17) (i := m) (by omega) (by omega)
      refine Cq.drawS 11 (fun w' => Blk w' b1 105 [Value.slice none 0 0, av, sv, Value.int .i64 lt, Value.int .i64 kd, Value.int .i64 gl] ∧ At w' 3 v14 m phpL (.int .i64 ((letters lt).getD m.toNat 0))) mixed (⟨hB4, hpL⟩) (fun w38 e39 hS => ?_)
      clear hS
      have hs40 := Below.size e39
      replace E := E.trans e39
      replace hB4 := hB4.ext e39
      replace hl17 := hl17.ext e39
      replace ho26 := ho26.ext e39
      replace hor := hor.ext e39
      replace ho3 := ho3.ext e39
      replace hpL := hpL.ext e39
      refine Gq.st 0 rfl (by kernel_rfl) rfl .plain rfl (fun _ _ _ h => h) ⟨hB4, hpL⟩ (fun w' x => Still.move rfl) ?_
      refine Gq.st 1 rfl (by kernel_rfl) rfl .plain rfl (fun _ _ _ h => h) ⟨hB4, hpL⟩ (fun w' x => Still.loadAgg agg105 rfl x.1 rfl) ?_
      refine Gq.st 2 rfl (by kernel_rfl) rfl .plain rfl (fun _ _ _ h => h) ⟨hB4, hpL⟩ (fun w' x => Still.move rfl) ?_
      refine Gq.st 3 rfl (by kernel_rfl) rfl .plain rfl (fun _ _ _ h => h) ⟨hB4, hpL⟩ (fun w' x => Still.move rfl) ?_
      refine Gq.st 4 rfl (by kernel_rfl) rfl .plain rfl (fun _ _ _ h => h) ⟨hB4, hpL⟩ (fun w' x => Still.move rfl) ?_
      refine Gq.st 5 rfl (by kernel_rfl) rfl .plain rfl (fun _ _ _ h => h) ⟨hB4, hpL⟩ (fun w' x => Still.move rfl) ?_
      refine Gq.st 6 rfl (by kernel_rfl) rfl .plain rfl (fun _ _ _ h => h) ⟨hB4, hpL⟩ (fun w' x => Still.at' sl56 hpL rfl rfl) ?_
      refine Gq.st 7 rfl (by kernel_rfl) rfl .plain rfl (fun _ _ _ h => h) ⟨hB4, hpL⟩ (fun w' x => Still.loadA one3 rfl (x.2).1) ?_
      refine Gq.one 8 rfl (by kernel_rfl) ?_
      have hd45 := hB4.lt
      refine Sq.call fn133 .plain rfl rfl (l4Nexts_c _ aa av sv ss lt kd gl (hN.ext E) (hS.ext E) _ _ ((decL (szs aa) i)) (hr.ext E) (Own.row ho26) hok (decL_ok (szs_ok hok) _) (by rw [decL_length, szs_length]) (((letters lt).getD m.toNat 0)) (by omega)) ?_
      rintro v41 w42 ⟨ho44, e43⟩
      have hs46 := Below.size E
      have hs47 := Below.size e43
      replace E := E.trans e43
      replace hB4 := hB4.ext e43
      replace hl17 := hl17.ext e43
      replace ho26 := ho26.ext e43
      replace hor := hor.ext e43
      replace ho3 := ho3.ext e43
      replace hpL := hpL.ext e43
      replace ho44 : Own w42 w38.heap.size 3 v41 (([fN aa i (((letters lt).getD m.toNat 0))] : List Int).map (Value.int .i64)) := ho44
      refine Sq.nil ?_
      refine Eq.goes (fun _ => ⟨hB4, hpL⟩) ?_
      refine Gq.one 9 rfl (by kernel_rfl) ?_
      refine Sq.lit sl23 rfl rfl .plain rfl rfl (one_cons (Row.one (Own.row ho44)) one_nil) (fun b48 w49 e50 hlo51 ho52 _ => ?_)
      replace ho52 := ho52 w42.heap.size (Nat.le_refl _)
      have hs54 := Below.size e50
      replace E := E.trans e50
      replace hB4 := hB4.ext e50
      replace hl17 := hl17.ext e50
      replace ho26 := ho26.ext e50
      replace hor := hor.ext e50
      replace ho3 := ho3.ext e50
      replace hpL := hpL.ext e50
      replace ho44 := ho44.ext e50
      refine Sq.nil ?_
      refine Eq.goes (fun _ => ⟨hB4, hpL⟩) ?_
      refine Gq.one 10 rfl (by kernel_rfl) ?_
      obtain ⟨rs59, q60, q61, q62⟩ := OwnRows.open hor (by decide)
      have q62x := Ext.refl w49
      refine Sq.app sl23 q60 (by omega) (Own.row ho52) (one_cons (Row.one (Own.row ho44)) one_nil) (by rw [q61]; simp; omega) .plain rfl rfl rfl rfl (fun v55 w56 ho58 g57 => ?_)
      have hs63 := g57.size
      have ho58r := q62 _ (([fN aa i (((letters lt).getD m.toNat 0))] : List Int)) _ _ _ (Ext.refl _) (Own.mono ho44 (by omega)) (by omega) ho58 g57
      replace E := E.owned q60 g57 (by omega)
      replace hB4 := hB4.owned q60 g57 (by decide)
      replace hl17 := hl17.owned q60 g57 (by decide)
      replace ho26 := ho26.owned q60 g57 (by decide)
      replace ho3 := ho3.apart q60 g57 (by omega) (by decide)
      replace hpL := hpL.owned q60 g57 (by decide)
      refine Sq.nil ?_
      refine Eq.goes (fun _ => ⟨hB4, hpL⟩) ?_
      refine Gq.one 11 rfl (by kernel_rfl) ?_
      refine Sq.assign .plain rfl rfl ?_
      refine Sq.nil ?_
      refine Eq.goes (fun h => absurd h (by decide)) ?_
      refine Gq.done (by kernel_rfl) ?_
      refine Eq.end ?_
      refine Eq.next ?_
      refine Cq.region ?_
      refine Sq.move .plain rfl rfl ?_
      refine Sq.add .plain rfl rfl rfl (by omega) ?_
      refine Sq.assign .plain rfl rfl ?_
      refine Sq.nil ?_
      have e2 := toNat_succ hm.1
      refine Eq.round _ _ ⟨m + 1, _, rfl, by omega, by omega, by rw [e2, take_snoc 0 (by omega), List.map_append]; exact OwnRows.now ho58r, ho3, E, hB4, hl17, ho26, rfl⟩ (by omega) (.cons rfl (.cons rfl (.cons rfl (.cons rfl (.cons rfl (.cons rfl (.cons rfl (.cons rfl (.cons rfl (.nil))))))))))
    refine Sq.nil ?_
    refine Eq.next ?_
    refine Cq.els rfl ?_
    refine Cq.exit ?_
    refine Eq.past ?_
    refine Eq.past ?_
    refine Eq.hit ?_
    refine Eq.next ?_
    refine Cq.region ?_
    refine Sq.move .plain rfl rfl ?_
    refine Sq.move .plain rfl rfl ?_
    obtain ⟨rs3, hq1, hq2, hq3⟩ := Own3.open ho3 (by decide) (by decide)
    have hU := RowsU.of (OwnRows.now hor)
    have hx0 := Ext.refl wl2
    refine Sq.lit sl122 rfl rfl .plain rfl rfl (one_cons (Rows.one (OwnRows.rows hor)) one_nil) (fun b64 w65 e66 hlo67 ho68 _ => ?_)
    have hs73 := Below.size e66
    replace E := E.trans e66
    replace hB4 := hB4.ext e66
    replace hl17 := hl17.ext e66
    replace hor := hor.ext e66
    replace hq1 := hq1.ext e66
    replace hx0 := hx0.trans e66
    refine Sq.app sl122 hq1 (by omega) (Own.row (ho68 _ (Nat.le_refl _))) (one_cons (Rows.one (OwnRows.rows hor)) one_nil) (by rw [hq2, hm3]; simp only [List.length_map, List.length_range, List.length_cons, List.length_nil]; omega) .plain rfl rfl rfl rfl (fun v69 w70 ho72 g71 => ?_)
    have hs74 := World.grownBy.size g71
    have ho3 := hq3 _ _ _ _ _ hx0 ((hU.ext hx0).up (Below.size hx0)) (by omega) ho72 g71
    replace E := E.owned hq1 g71 (by omega)
    replace hB4 := hB4.owned hq1 g71 (by decide)
    replace hl17 := hl17.owned hq1 g71 (by decide)
    refine Sq.assign .plain rfl rfl ?_
    refine Sq.nil ?_
    refine Eq.end ?_
    refine Eq.next ?_
    refine Cq.region ?_
    refine Sq.move .plain rfl rfl ?_
    refine Sq.add .plain rfl rfl rfl (by omega) ?_
    refine Sq.assign .plain rfl rfl ?_
    refine Sq.nil ?_
    have e1 := toNat_succ hi.1
    have em : m.toNat = (letters lt).length := by omega
    refine Eq.round _ _ ⟨i + 1, _, rfl, by omega, by rw [e1, List.range_succ, List.map_append, List.map_cons, List.map_nil, Int.toNat_of_nonneg hi.1]; rw [List.take_of_length_le (by omega)] at ho3; exact ho3, E, hB4, hl17, rfl⟩ (by omega) (.cons rfl (.cons rfl (.cons rfl (.cons rfl (.cons rfl (.cons rfl (.nil)))))))
  refine Sq.nil ?_
  refine Eq.next ?_
  refine Cq.els rfl ?_
  refine Cq.exit ?_
  refine Eq.past ?_
  refine Eq.past ?_
  refine Eq.hit ?_
  refine Eq.next ?_
  refine Cq.seq ?_
  refine Cq.region ?_
  refine Sq.move .plain rfl rfl ?_
  refine Sq.assign .plain rfl rfl ?_
  refine Sq.nil ?_
  refine Eq.next ?_
  refine Cq.ret ?_
  refine Eq.ret1 rfl rfl ?_
  have e3 : i.toNat = total aa := by omega
  rw [e3] at ho3
  exact ⟨Own3.read ho3, E⟩
end Go.Proofs.Ytdejmfkpohgamaa
set_option linter.unusedSimpArgs false
set_option linter.unusedVariables false
namespace Go.Proofs.Ytdejmfkpohgamaa
open Go.RowKit
set_option maxHeartbeats 1000000 in
set_option maxRecDepth 100000 in
theorem l4First_c (w0 : World) (aa : List A) (av sv : Value) (ss : List Int) (lt kd gl : Int) (hN : NetA w0 26 56 3 4 av aa) (hS : Ints w0 3 sv ss) (hok : NetOk aa) (hst : StOk (szs aa) ss) (hsl : ss.length = aa.length) (hk : KindOk kd aa) (hal : 0 ≤ lt ∧ lt ≤ 63) : Ret Try.prog 101 #[Value.agg #[Value.slice none 0 0, av, sv, Value.int .i64 lt, Value.int .i64 kd, Value.int .i64 gl]] w0 (fun v w => v = resW (firstOf (fN aa) (encTo (szs aa) ss (szs aa).length) (letters lt) (fun q => foundN kd gl aa (decL (szs aa) q))) ∧ Ext w0 w) := by
  have E := Ext.refl w0
  have hlen := hok.1
  have hzl := szs_length aa
  have htb := total_bd hok
  have hlet := letters_len6 lt
  have hso := szs_ok hok
  have hfN : ∀ q l, l ∈ (letters lt) → 0 ≤ fN aa q l ∧ fN aa q l < (((total aa) : Nat) : Int) := fun q l hl => fN_in hok q ⟨(mem_letters hl).1, (mem_letters hl).2.1⟩
  have hS0b : 0 ≤ (encTo (szs aa) ss (szs aa).length) ∧ (encTo (szs aa) ss (szs aa).length) < (((total aa) : Nat) : Int) := by have h := enc_lt hso hst (by omega); rw [htb.2.2]; exact h
  refine Ret.of (args := [Value.agg #[Value.slice none 0 0, av, sv, Value.int .i64 lt, Value.int .i64 kd, Value.int .i64 gl]]) Try.func101 rfl rfl rfl ?_
  rintro _ rfl
  show Cq _ _ _ _ [(0, Value.agg #[Value.slice none 0 0, av, sv, Value.int .i64 lt, Value.int .i64 kd, Value.int .i64 gl])] _
  refine Cq.seq ?_
  refine Cq.region ?_
  refine Sq.box .plain rfl rfl (fun b1 w2 e3 hB4 hlo5 => ?_)
  have hd6 := Nat.le_trans (Below.size E) hlo5
  have hs7 := Below.size e3
  replace E := E.trans e3
  refine Sq.assign .plain rfl rfl ?_
  refine Sq.assign .plain rfl rfl ?_
  refine Sq.nil ?_
  refine Eq.next ?_
  refine Cq.seq ?_
  refine Cq.region ?_
  refine Sq.loadAgg agg105 .plain rfl rfl hB4 rfl ?_
  have hd12 := hB4.lt
  refine Sq.call fn118 .plain rfl rfl (l4Sizes_c _ aa av sv ss lt kd gl (hN.ext E) (hS.ext E) (by omega)) ?_
  rintro v8 w9 ⟨ho11, e10⟩
  have hs13 := Below.size E
  have hs14 := Below.size e10
  replace E := E.trans e10
  replace hB4 := hB4.ext e10
  refine Sq.assign .plain rfl rfl ?_
  have fzS := Ext.refl w9
  have hs15 := Below.size E
  replace ho11 := Own.row ho11
  refine Sq.nil ?_
  refine Eq.next ?_
  refine Cq.seq ?_
  refine Cq.region ?_
  refine Sq.assign .plain rfl rfl ?_
  refine Sq.nil ?_
  refine Eq.next ?_
  refine Cq.seq ?_
  refine Cq.seq ?_
  refine Cq.region ?_
  refine Sq.assign .plain rfl rfl ?_
  refine Sq.nil ?_
  refine Eq.next ?_
  refine Cq.block ?_
  refine Cq.loop (fun nn w ls => ∃ (k : Int), ls = [(1, Value.pointer (some ⟨b1, 0, none⟩)), (4, v8), (5, Value.int .i64 ((prodTo (szs aa) k.toNat))), (6, Value.int .i64 k)] ∧ (0 ≤ k ∧ k ≤ (szs aa).length) ∧ Ext w0 w ∧ Ext w9 w ∧ Blk w b1 105 [Value.slice none 0 0, av, sv, Value.int .i64 lt, Value.int .i64 kd, Value.int .i64 gl] ∧ nn = (((szs aa).length : Int) - k).toNat) _ _ ⟨0, rfl, by omega, E, fzS, hB4, rfl⟩ (.cons rfl (.cons rfl (.cons rfl (.cons rfl (.nil))))) ?_
  rintro nn wl1 ls ⟨k, rfl, hk1, E, fzS, hB4, rfl⟩
  have hs16 := Below.size E
  have hs17 := Below.size fzS
  refine Cq.seq ?_
  refine Cq.seq ?_
  refine Cq.region ?_
  refine Sq.move .plain rfl rfl ?_
  refine Sq.move .plain rfl rfl ?_
  refine Sq.lenInts (ho11.ext fzS) .plain rfl und56 rfl ?_
  refine Sq.lss .plain rfl rfl rfl ?_
  refine Sq.part (fun c18 => ?_) (fun c18 => ?_)
  · refine Sq.nil ?_
    refine Eq.next ?_
    refine Cq.thn rfl ?_
    refine Cq.skip ?_
    refine Eq.next ?_
    refine Cq.seq ?_
    refine Cq.block ?_
    refine Cq.region ?_
    refine Sq.move .plain rfl rfl ?_
    refine Sq.move .plain rfl rfl ?_
    refine Sq.move .plain rfl rfl ?_
    refine Sq.idxInts sl56 one3 (ho11.ext fzS) .plain rfl rfl rfl .plain rfl rfl (by omega) (by omega) ?_
    refine Sq.mul .plain rfl rfl rfl (by have := prodTo_bd hso (k := k.toNat) (by omega); omega) ?_
    refine Sq.assign .plain rfl rfl ?_
    refine Sq.nil ?_
    refine Eq.end ?_
    refine Eq.next ?_
    refine Cq.region ?_
    refine Sq.move .plain rfl rfl ?_
    refine Sq.add .plain rfl rfl rfl (by omega) ?_
    refine Sq.assign .plain rfl rfl ?_
    refine Sq.nil ?_
    have e1 := toNat_succ hk1.1
    rw [show prodTo (szs aa) k.toNat * (szs aa).getD k.toNat 0 = prodTo (szs aa) (k + 1).toNat by rw [e1, prodTo_succ (by omega)]]
    refine Eq.round _ _ ⟨k + 1, rfl, by omega, E, fzS, hB4, rfl⟩ (by omega) (.cons rfl (.cons rfl (.cons rfl (.cons rfl (.nil)))))
  refine Sq.nil ?_
  refine Eq.next ?_
  refine Cq.els rfl ?_
  refine Cq.exit ?_
  refine Eq.past ?_
  refine Eq.past ?_
  refine Eq.hit ?_
  refine Eq.next ?_
  refine Cq.seq ?_
  refine Cq.region ?_
  have htot : prodTo (szs aa) k.toNat = (((total aa) : Nat) : Int) := by rw [prodTo_all (by omega)]; exact htb.2.2.symm
  rw [htot]
  refine Sq.loadAgg agg105 .plain rfl rfl hB4 rfl ?_
  refine Sq.move .plain rfl rfl ?_
  refine Sq.move .plain rfl rfl ?_
  refine Sq.call fn119 .plain rfl rfl (l4Moves_c _ aa av sv ss lt kd gl (hN.ext E) (hS.ext E) _ _ (ho11.ext fzS) hok rfl hal) ?_
  rintro vM w19 ⟨hmv, e20⟩
  have hs21 := Below.size e20
  replace E := E.trans e20
  replace fzS := fzS.trans e20
  replace hB4 := hB4.ext e20
  have fzM := Ext.refl w19
  have hs22 := Below.size E
  have hs23 := Below.size fzS
  refine Sq.assign .plain rfl rfl ?_
  refine Sq.nil ?_
  refine Eq.next ?_
  refine Cq.seq ?_
  refine Cq.region ?_
  refine Sq.move .plain rfl rfl ?_
  refine Sq.make sl56 .plain rfl rfl rfl rfl (by omega) (fun b24 w25 e26 hlo27 hB28 => ?_)
  replace hB28 := hB28 w19.heap.size (Nat.le_refl _)
  have hs29 := Below.size e26
  replace E := E.trans e26
  replace fzS := fzS.trans e26
  replace hB4 := hB4.ext e26
  replace fzM := fzM.trans e26
  refine Sq.assign .plain rfl rfl ?_
  refine Sq.nil ?_
  refine Eq.next ?_
  refine Cq.seq ?_
  refine Cq.seq ?_
  refine Cq.region ?_
  refine Sq.assign .plain rfl rfl ?_
  refine Sq.nil ?_
  refine Eq.next ?_
  refine Cq.block ?_
  refine Cq.loop (fun nn w ls => ∃ (i : Int), ls = [(1, Value.pointer (some ⟨b1, 0, none⟩)), (4, v8), (5, Value.int .i64 ((((total aa) : Nat) : Int))), (7, vM), (8, Value.slice (some ⟨b24, 0, none⟩) ((((total aa) : Nat) : Int)).toNat ((((total aa) : Nat) : Int)).toNat), (9, Value.int .i64 i)] ∧ (0 ≤ i ∧ i ≤ (((total aa) : Nat) : Int)) ∧ Own w w19.heap.size 3 (Value.slice (some ⟨b24, 0, none⟩) ((((total aa) : Nat) : Int)).toNat ((((total aa) : Nat) : Int)).toNat) ((dsInit (fun q => foundN kd gl aa (decL (szs aa) q)) (total aa) i.toNat).map (Value.int .i64)) ∧ Ext w0 w ∧ Ext w9 w ∧ Ext w19 w ∧ Blk w b1 105 [Value.slice none 0 0, av, sv, Value.int .i64 lt, Value.int .i64 kd, Value.int .i64 gl] ∧ nn = ((((total aa) : Nat) : Int) - i).toNat) _ _ ⟨0, rfl, by omega, by rw [show (0 : Int).toNat = 0 from rfl, dsInit_zero, List.map_replicate]; exact hB28, E, fzS, fzM, hB4, rfl⟩ (.cons rfl (.cons rfl (.cons rfl (.cons rfl (.cons rfl (.cons rfl (.nil))))))) ?_
  rintro nn wl2 ls ⟨i, rfl, hi, ho, E, fzS, fzM, hB4, rfl⟩
  have hs30 := Below.size E
  have hs31 := Below.size fzS
  have hs32 := Below.size fzM
  have hil := dsInit_length (G := (fun q => foundN kd gl aa (decL (szs aa) q))) (n := (total aa)) i.toNat
  refine Cq.seq ?_
  refine Cq.seq ?_
  refine Cq.region ?_
  refine Sq.move .plain rfl rfl ?_
  refine Sq.move .plain rfl rfl ?_
  refine Sq.lss .plain rfl rfl rfl ?_
  refine Sq.part (fun c33 => ?_) (fun c33 => ?_)
  · refine Sq.nil ?_
    refine Eq.next ?_
    refine Cq.thn rfl ?_
    refine Cq.skip ?_
    refine Eq.next ?_
    refine Cq.seq ?_
    refine Cq.block ?_
    refine Cq.seq ?_
    refine Cq.region ?_
    refine Sq.move .plain rfl rfl ?_
    refine Sq.move .plain rfl rfl ?_
    obtain ⟨p34, hp35o⟩ := Own.at ho (i := i) (by omega) (by first | (simp only [List.length_map]; omega) | (simp; omega))
    refine Sq.atO sl56 hp35o .plain rfl rfl rfl ?_
    refine Sq.storeO one3 ho hp35o .plain rfl rfl rfl (fun w36 g37 ho38 => ?_)
    have hs39 := World.grownBy.size g37
    replace E := E.owned ho g37 (by omega)
    replace fzS := fzS.owned ho g37 (by omega)
    replace fzM := fzM.owned ho g37 (by omega)
    replace hB4 := hB4.owned ho g37 (by decide)
    replace ho := ho38
    refine Sq.nil ?_
    refine Eq.next ?_
    refine Cq.seq ?_
    obtain ⟨pM, rM, hpM, hrM⟩ := Read3.at hmv (i := i) (by omega) (by rw [movesN, List.length_map, List.length_range]; omega)
    replace hpM := hpM.ext fzM
    refine Cq.drawS 9 (fun w' => Blk w' b1 105 [Value.slice none 0 0, av, sv, Value.int .i64 lt, Value.int .i64 kd, Value.int .i64 gl] ∧ At w' 23 vM i pM rM) mixed (⟨hB4, hpM⟩) (fun w40 e41 hS => ?_)
    clear hS
    have hs42 := Below.size e41
    replace E := E.trans e41
    replace fzS := fzS.trans e41
    replace fzM := fzM.trans e41
    replace hB4 := hB4.ext e41
    replace ho := ho.ext e41
    replace hpM := hpM.ext e41
    refine Gq.st 0 rfl (by kernel_rfl) rfl .plain rfl (fun _ _ _ h => h) ⟨hB4, hpM⟩ (fun w' x => Still.loadAgg agg105 rfl x.1 rfl) ?_
    refine Gq.st 1 rfl (by kernel_rfl) rfl .plain rfl (fun _ _ _ h => h) ⟨hB4, hpM⟩ (fun w' x => Still.move rfl) ?_
    refine Gq.st 2 rfl (by kernel_rfl) rfl .plain rfl (fun _ _ _ h => h) ⟨hB4, hpM⟩ (fun w' x => Still.move rfl) ?_
    refine Gq.st 4 rfl (by kernel_rfl) rfl .plain rfl (fun _ _ _ h => h) ⟨hB4, hpM⟩ (fun w' x => Still.move rfl) ?_
    refine Gq.st 5 rfl (by kernel_rfl) rfl .plain rfl (fun _ _ _ h => h) ⟨hB4, hpM⟩ (fun w' x => Still.move rfl) ?_
    refine Gq.st 6 rfl (by kernel_rfl) rfl .plain rfl (fun _ _ _ h => h) ⟨hB4, hpM⟩ (fun w' x => Still.at' sl122 hpM rfl rfl) ?_
    refine Gq.st 7 rfl (by kernel_rfl) rfl .plain rfl (fun _ _ _ h => h) ⟨hB4, hpM⟩ (fun w' x => Still.loadA one23 rfl (x.2).1) ?_
    refine Gq.one 3 rfl (by kernel_rfl) ?_
    have hd47 := hB4.lt
    refine Sq.call fn121 .plain rfl rfl (l4Decode_c _ (szs aa) _ (ho11.ext fzS) i hso (by omega)) ?_
    rintro v43 w44 ⟨ho46, e45⟩
    have hs48 := Below.size E
    have hs49 := Below.size fzS
    have hs50 := Below.size fzM
    have hs51 := Below.size e45
    replace E := E.trans e45
    replace fzS := fzS.trans e45
    replace fzM := fzM.trans e45
    replace hB4 := hB4.ext e45
    replace ho := ho.ext e45
    replace hpM := hpM.ext e45
    refine Sq.nil ?_
    refine Eq.goes (fun _ => ⟨hB4, hpM⟩) ?_
    refine Gq.one 8 rfl (by kernel_rfl) ?_
    have hd55 := hB4.lt
    refine Sq.call fn120 .plain rfl rfl (l4Found_c _ aa av sv ss lt kd gl (hN.ext E) (hS.ext E) _ ((decL (szs aa) i)) (Own.row ho46) hok (decL_ok hso _) (by rw [decL_length, szs_length]) rM hk) ?_
    rintro _ w53 ⟨rfl, e54⟩
    have hs56 := Below.size E
    have hs57 := Below.size fzS
    have hs58 := Below.size fzM
    have hs59 := Below.size e54
    replace E := E.trans e54
    replace fzS := fzS.trans e54
    replace fzM := fzM.trans e54
    replace hB4 := hB4.ext e54
    replace ho := ho.ext e54
    replace hpM := hpM.ext e54
    refine Sq.partB (fun hfo => ?_) (fun hfo => ?_)
    · refine Sq.nil ?_
      refine Eq.goes (fun _ => ⟨hB4, hpM⟩) ?_
      refine Gq.done (by kernel_rfl) ?_
      refine Eq.next ?_
      refine Cq.thn rfl ?_
      refine Cq.region ?_
      refine Sq.move .plain rfl rfl ?_
      refine Sq.move .plain rfl rfl ?_
      obtain ⟨p60, hp61o⟩ := Own.at ho (i := i) (by omega) (by first | (simp only [List.length_map]; omega) | (simp; omega))
      refine Sq.atO sl56 hp61o .plain rfl rfl rfl ?_
      refine Sq.storeO one3 ho hp61o .plain rfl rfl rfl (fun w62 g63 ho64 => ?_)
      have hs65 := World.grownBy.size g63
      replace E := E.owned ho g63 (by omega)
      replace fzS := fzS.owned ho g63 (by omega)
      replace fzM := fzM.owned ho g63 (by omega)
      replace hB4 := hB4.owned ho g63 (by decide)
      replace ho := ho64
      refine Sq.nil ?_
      refine Eq.end ?_
      refine Eq.next ?_
      refine Cq.region ?_
      refine Sq.move .plain rfl rfl ?_
      refine Sq.add .plain rfl rfl rfl (by omega) ?_
      refine Sq.assign .plain rfl rfl ?_
      refine Sq.nil ?_
      have e1 := toNat_succ hi.1
      refine Eq.round _ _ ⟨i + 1, rfl, by omega, by rw [e1, ← dsInit_T (v := i) (by omega) (Int.toNat_of_nonneg hi.1) hfo]; exact ho, E, fzS, fzM, hB4, rfl⟩ (by omega) (.cons rfl (.cons rfl (.cons rfl (.cons rfl (.cons rfl (.cons rfl (.nil)))))))
    refine Sq.nil ?_
    refine Eq.goes (fun _ => ⟨hB4, hpM⟩) ?_
    refine Gq.done (by kernel_rfl) ?_
    refine Eq.next ?_
    refine Cq.els rfl ?_
    refine Cq.skip ?_
    refine Eq.end ?_
    refine Eq.next ?_
    refine Cq.region ?_
    refine Sq.move .plain rfl rfl ?_
    refine Sq.add .plain rfl rfl rfl (by omega) ?_
    refine Sq.assign .plain rfl rfl ?_
    refine Sq.nil ?_
    have e1 := toNat_succ hi.1
    refine Eq.round _ _ ⟨i + 1, rfl, by omega, by rw [e1, ← dsInit_F (v := i) (by omega) (Int.toNat_of_nonneg hi.1) hfo]; exact ho, E, fzS, fzM, hB4, rfl⟩ (by omega) (.cons rfl (.cons rfl (.cons rfl (.cons rfl (.cons rfl (.cons rfl (.nil)))))))
  refine Sq.nil ?_
  refine Eq.next ?_
  refine Cq.els rfl ?_
  refine Cq.exit ?_
  refine Eq.past ?_
  refine Eq.past ?_
  refine Eq.hit ?_
  refine Eq.next ?_
  refine Cq.seq ?_
  refine Cq.region ?_
  rw [dsInit_all (f := (fN aa)) (L := (letters lt)) (by omega)] at ho
  refine Sq.move .plain rfl rfl ?_
  refine Sq.move .plain rfl rfl ?_
  refine Sq.call fn122 .plain rfl rfl (l4Dist_c _ _ _ _ _ (fN aa) (letters lt) (fun q => foundN kd gl aa (decL (szs aa) q)) (total aa) fzM hmv (by omega) ho hfN (by omega) (by omega)) ?_
  rintro _ w66 ⟨rfl, ⟨dd, hdd, ho68, hstab⟩, g67⟩
  have hs69 := World.grownBy.size g67
  replace E := E.owned ho g67 (by omega)
  replace fzS := fzS.owned ho g67 (by omega)
  replace fzM := fzM.owned ho g67 (by omega)
  replace hB4 := hB4.owned ho g67 (by decide)
  replace ho := ho68
  refine Sq.nil ?_
  refine Eq.next ?_
  refine Cq.seq ?_
  refine Cq.region ?_
  refine Sq.move .plain rfl rfl ?_
  refine Sq.fieldAddr fld105_2 .plain rfl rfl ?_
  refine Sq.loadB one56 .plain rfl rfl hB4 rfl ?_
  have hd73 := hB4.lt
  refine Sq.call fn123 .plain rfl rfl (l4Encode_c _ (szs aa) ss _ _ (ho11.ext fzS) (hS.ext E) hso hst (by omega)) ?_
  rintro _ w71 ⟨rfl, e72⟩
  have hs74 := Below.size E
  have hs75 := Below.size fzS
  have hs76 := Below.size fzM
  have hs77 := Below.size e72
  replace E := E.trans e72
  replace fzS := fzS.trans e72
  replace fzM := fzM.trans e72
  replace hB4 := hB4.ext e72
  replace ho := ho.ext e72
  refine Sq.lit sl56 rfl rfl .plain rfl rfl (one_cons rfl one_nil) (fun b78 w79 e80 hlo81 ho82 _ => ?_)
  replace ho82 := ho82 w71.heap.size (Nat.le_refl _)
  have hs84 := Below.size e80
  replace E := E.trans e80
  replace fzS := fzS.trans e80
  replace fzM := fzM.trans e80
  replace hB4 := hB4.ext e80
  replace ho := ho.ext e80
  refine Sq.assign .plain rfl rfl ?_
  refine Sq.nil ?_
  refine Eq.next ?_
  refine Cq.seq ?_
  refine Cq.region ?_
  refine Sq.fieldAddr fld105_3 .plain rfl rfl ?_
  refine Sq.loadB one3 .plain rfl rfl hB4 rfl ?_
  have hd89 := hB4.lt
  refine Sq.call fn53 .plain rfl rfl (l1Letters_c lt (by omega) _) ?_
  rintro v85 w86 ⟨hl88, e87⟩
  have hs90 := Below.size E
  have hs91 := Below.size fzS
  have hs92 := Below.size fzM
  have hs93 := Below.size e87
  replace E := E.trans e87
  replace fzS := fzS.trans e87
  replace fzM := fzM.trans e87
  replace ho := ho.ext e87
  replace ho82 := ho82.ext e87
  refine Sq.assign .plain rfl rfl ?_
  refine Sq.nil ?_
  refine Eq.next ?_
  refine Cq.seq ?_
  refine Cq.region ?_
  refine Sq.assign .plain rfl rfl ?_
  refine Sq.nil ?_
  refine Eq.next ?_
  refine Cq.seq ?_
  refine Cq.region ?_
  refine Sq.move .plain rfl rfl ?_
  refine Sq.move .plain rfl rfl ?_
  replace ho82 : Own _ _ _ _ (([(encTo (szs aa) ss (szs aa).length)] : List Int).map (Value.int .i64)) := ho82
  refine Sq.idxInts sl56 one3 (Own.row ho82) .plain rfl rfl rfl .plain rfl rfl (by omega) (by simp only [List.length_singleton]; omega) ?_
  rw [show ([(encTo (szs aa) ss (szs aa).length)] : List Int).getD (0 : Int).toNat 0 = (encTo (szs aa) ss (szs aa).length) from rfl]
  have hdl := dsOf_length (f := (fN aa)) (L := (letters lt)) (G := (fun q => foundN kd gl aa (decL (szs aa) q))) (n := (total aa)) dd
  refine Sq.idxInts sl56 one3 (Own.row ho) .plain rfl rfl rfl .plain rfl rfl (by omega) (by omega) ?_
  rw [dsOf_get hS0b]
  refine Sq.assign .plain rfl rfl ?_
  refine Sq.nil ?_
  refine Eq.next ?_
  refine Cq.seq ?_
  refine Cq.block ?_
  have hdle := disTo_le (f := (fN aa)) (L := (letters lt)) (G := (fun q => foundN kd gl aa (decL (szs aa) q))) (d := dd) (q := (encTo (szs aa) ss (szs aa).length))
  refine Cq.loop (fun nn w ls => ∃ (u : List Int), ∃ (q : Int), ∃ (dI : Int), ∃ (av2 : Value), ls = [(7, vM), (8, Value.slice (some ⟨b24, 0, none⟩) ((((total aa) : Nat) : Int)).toNat ((((total aa) : Nat) : Int)).toNat), (10, av2), (11, v85), (12, Value.string (txt u)), (13, Value.int .i64 dI)] ∧ (0 ≤ q ∧ q < (((total aa) : Nat) : Int)) ∧ dI = (disTo (fN aa) (letters lt) (fun q => foundN kd gl aa (decL (szs aa) q)) dd) q ∧ (0 ≤ ((disTo (fN aa) (letters lt) (fun q => foundN kd gl aa (decL (szs aa) q)) dd) (encTo (szs aa) ss (szs aa).length)) → 0 ≤ dI ∧ gre (fN aa) (letters lt) (disTo (fN aa) (letters lt) (fun q => foundN kd gl aa (decL (szs aa) q)) dd) ((disTo (fN aa) (letters lt) (fun q => foundN kd gl aa (decL (szs aa) q)) dd) (encTo (szs aa) ss (szs aa).length)).toNat (encTo (szs aa) ss (szs aa).length) = u ++ gre (fN aa) (letters lt) (disTo (fN aa) (letters lt) (fun q => foundN kd gl aa (decL (szs aa) q)) dd) dI.toNat q) ∧ (((disTo (fN aa) (letters lt) (fun q => foundN kd gl aa (decL (szs aa) q)) dd) (encTo (szs aa) ss (szs aa).length)) < 0 → dI < 0 ∧ u = []) ∧ ((u.length : Int) + dI ≤ 200) ∧ Ints w 3 av2 [q] ∧ Ext w0 w ∧ Ext w9 w ∧ Ext w19 w ∧ Own w w19.heap.size 3 (Value.slice (some ⟨b24, 0, none⟩) ((((total aa) : Nat) : Int)).toNat ((((total aa) : Nat) : Int)).toNat) ((dsOf (fN aa) (letters lt) (fun q => foundN kd gl aa (decL (szs aa) q)) (total aa) dd).map (Value.int .i64)) ∧ Own w w79.heap.size 3 v85 ((letters lt).map (Value.int .i64)) ∧ nn = dI.toNat) _ _ ⟨[], (encTo (szs aa) ss (szs aa).length), _, _, rfl, hS0b, rfl, fun h => ⟨h, rfl⟩, fun h => ⟨h, rfl⟩, by show ((0 : Nat) : Int) + _ ≤ 200; omega, (Own.row ho82), E, fzS, fzM, ho, hl88, rfl⟩ (.cons rfl (.cons rfl (.cons rfl (.cons rfl (.cons rfl (.cons rfl (.nil))))))) ?_
  rintro nn wl3 ls ⟨u, q, dI, av2, rfl, hq, hdq, hpos, hneg, hsz, hav, E, fzS, fzM, ho, hl88, rfl⟩
  have hs94 := Below.size E
  have hs95 := Below.size fzS
  have hs96 := Below.size fzM
  refine Cq.seq ?_
  refine Cq.seq ?_
  refine Cq.region ?_
  refine Sq.move .plain rfl rfl ?_
  refine Sq.gtr .plain rfl rfl rfl ?_
  refine Sq.part (fun c97 => ?_) (fun c97 => ?_)
  · refine Sq.nil ?_
    refine Eq.next ?_
    refine Cq.thn rfl ?_
    refine Cq.skip ?_
    refine Eq.next ?_
    refine Cq.seq ?_
    refine Cq.block ?_
    refine Cq.seq ?_
    refine Cq.region ?_
    refine Sq.assign .plain rfl rfl ?_
    refine Sq.nil ?_
    refine Eq.next ?_
    refine Cq.seq ?_
    refine Cq.region ?_
    have hL0 : 0 < (letters lt).length := next_lt (k := 0) hdq.symm (by omega) (fun j hj => absurd hj (Nat.not_lt_zero _))
    refine Sq.move .plain rfl rfl ?_
    refine Sq.move .plain rfl rfl ?_
    refine Sq.move .plain rfl rfl ?_
    refine Sq.move .plain rfl rfl ?_
    refine Sq.move .plain rfl rfl ?_
    refine Sq.sub .plain rfl rfl rfl (by omega) ?_
    have hkk : 0 ≤ (0 : Int) ∧ (0 : Int).toNat < (letters lt).length := by omega
    have hfx := hfN q ((letters lt).getD (0 : Int).toNat 0) (getD_mem (by omega))
    refine Sq.call fn124 .plain rfl rfl (l4Closer_c _ _ _ _ (movesN aa (letters lt)) (dsOf (fN aa) (letters lt) (fun q => foundN kd gl aa (decL (szs aa) q)) (total aa) dd) q (0 : Int) (dI - 1) (fN aa q ((letters lt).getD (0 : Int).toNat 0)) (hmv.ext fzM) (Own.row ho) hav (by rw [movesN, List.length_map, List.length_range]; exact hq) (by rw [moves_at hq, List.length_map]; omega) (by rw [moves_at hq]; exact row_get (by omega)) (by rw [dsOf_length]; exact hfx)) ?_
    rintro v100 w98 ⟨hnv101, e99⟩
    rw [dsOf_get hfx] at hnv101
    have hs102 := Below.size e99
    replace E := E.trans e99
    replace fzS := fzS.trans e99
    replace fzM := fzM.trans e99
    replace ho := ho.ext e99
    replace hl88 := hl88.ext e99
    replace hav := hav.ext e99
    have hs103 := Below.size E
    have hs104 := Below.size fzS
    have hs105 := Below.size fzM
    refine Sq.assign .plain rfl rfl ?_
    refine Sq.nil ?_
    refine Eq.next ?_
    refine Cq.seq ?_
    refine Cq.block ?_
    refine Cq.loop (fun nn w ls => ∃ (k : Int), ∃ (nv : Value), ls = [(7, vM), (8, Value.slice (some ⟨b24, 0, none⟩) ((((total aa) : Nat) : Int)).toNat ((((total aa) : Nat) : Int)).toNat), (10, av2), (11, v85), (12, Value.string (txt u)), (13, Value.int .i64 dI), (14, Value.int .i64 k), (15, nv)] ∧ (0 ≤ k ∧ k < ((letters lt).length : Int)) ∧ (∀ j : Nat, j < k.toNat → ¬ (disTo (fN aa) (letters lt) (fun q => foundN kd gl aa (decL (szs aa) q)) dd) (fN aa q ((letters lt).getD j 0)) = dI - 1) ∧ Ints w 3 nv (if (disTo (fN aa) (letters lt) (fun q => foundN kd gl aa (decL (szs aa) q)) dd) (fN aa q ((letters lt).getD k.toNat 0)) = dI - 1 then [(fN aa q ((letters lt).getD k.toNat 0))] else []) ∧ Ext w0 w ∧ Ext w9 w ∧ Ext w19 w ∧ Own w w19.heap.size 3 (Value.slice (some ⟨b24, 0, none⟩) ((((total aa) : Nat) : Int)).toNat ((((total aa) : Nat) : Int)).toNat) ((dsOf (fN aa) (letters lt) (fun q => foundN kd gl aa (decL (szs aa) q)) (total aa) dd).map (Value.int .i64)) ∧ Ints w 3 av2 [q] ∧ Own w w79.heap.size 3 v85 ((letters lt).map (Value.int .i64)) ∧ nn = (((letters lt).length : Int) - k).toNat) _ _ ⟨0, _, rfl, by omega, fun j hj => absurd hj (Nat.not_lt_zero _), (Own.row hnv101), E, fzS, fzM, ho, hav, hl88, rfl⟩ (.cons rfl (.cons rfl (.cons rfl (.cons rfl (.cons rfl (.cons rfl (.cons rfl (.cons rfl (.nil))))))))) ?_
    rintro nn wl4 ls ⟨k, nv, rfl, hk4, hno, hnv, E, fzS, fzM, ho, hav, hl88, rfl⟩
    have hs106 := Below.size E
    have hs107 := Below.size fzS
    have hs108 := Below.size fzM
    refine Cq.seq ?_
    refine Cq.seq ?_
    refine Cq.region ?_
    refine Sq.move .plain rfl rfl ?_
    refine Sq.lenInts hnv .plain rfl und56 rfl ?_
    refine Sq.eql .plain rfl rfl rfl ?_
    refine Sq.part (fun hem => ?_) (fun hem => ?_)
    · refine Sq.nil ?_
      refine Eq.next ?_
      refine Cq.thn rfl ?_
      refine Cq.skip ?_
      refine Eq.next ?_
      refine Cq.block ?_
      refine Cq.seq ?_
      refine Cq.region ?_
      have hne : ¬ (disTo (fN aa) (letters lt) (fun q => foundN kd gl aa (decL (szs aa) q)) dd) (fN aa q ((letters lt).getD k.toNat 0)) = dI - 1 := fun h => by rw [if_pos h] at hem; exact absurd hem (by simp)
      have hno' : ∀ j : Nat, j < k.toNat + 1 → ¬ (disTo (fN aa) (letters lt) (fun q => foundN kd gl aa (decL (szs aa) q)) dd) (fN aa q ((letters lt).getD j 0)) = dI - 1 := fun j hj => (Nat.lt_or_ge j k.toNat).elim (hno j) (fun h => (show k.toNat = j by omega) ▸ hne)
      have hkl : k.toNat + 1 < (letters lt).length := next_lt hdq.symm (by omega) hno'
      refine Sq.move .plain rfl rfl ?_
      refine Sq.add .plain rfl rfl rfl (by omega) ?_
      refine Sq.assign .plain rfl rfl ?_
      refine Sq.nil ?_
      refine Eq.next ?_
      refine Cq.region ?_
      refine Sq.move .plain rfl rfl ?_
      refine Sq.move .plain rfl rfl ?_
      refine Sq.move .plain rfl rfl ?_
      refine Sq.move .plain rfl rfl ?_
      refine Sq.move .plain rfl rfl ?_
      refine Sq.sub .plain rfl rfl rfl (by omega) ?_
      have hkk : 0 ≤ (k + 1) ∧ (k + 1).toNat < (letters lt).length := by omega
      have hfx := hfN q ((letters lt).getD (k + 1).toNat 0) (getD_mem (by omega))
      refine Sq.call fn124 .plain rfl rfl (l4Closer_c _ _ _ _ (movesN aa (letters lt)) (dsOf (fN aa) (letters lt) (fun q => foundN kd gl aa (decL (szs aa) q)) (total aa) dd) q (k + 1) (dI - 1) (fN aa q ((letters lt).getD (k + 1).toNat 0)) (hmv.ext fzM) (Own.row ho) hav (by rw [movesN, List.length_map, List.length_range]; exact hq) (by rw [moves_at hq, List.length_map]; omega) (by rw [moves_at hq]; exact row_get (by omega)) (by rw [dsOf_length]; exact hfx)) ?_
      rintro v111 w109 ⟨hnv112, e110⟩
      rw [dsOf_get hfx] at hnv112
      have hs113 := Below.size e110
      replace E := E.trans e110
      replace fzS := fzS.trans e110
      replace fzM := fzM.trans e110
      replace ho := ho.ext e110
      replace hav := hav.ext e110
      replace hl88 := hl88.ext e110
      have hs114 := Below.size E
      have hs115 := Below.size fzS
      have hs116 := Below.size fzM
      refine Sq.assign .plain rfl rfl ?_
      refine Sq.nil ?_
      refine Eq.end ?_
      have e4 := toNat_succ hk4.1
      refine Eq.round _ _ ⟨k + 1, _, rfl, by omega, by rw [e4]; exact hno', (Own.row hnv112), E, fzS, fzM, ho, hav, hl88, rfl⟩ (by omega) (.cons rfl (.cons rfl (.cons rfl (.cons rfl (.cons rfl (.cons rfl (.cons rfl (.cons rfl (.nil)))))))))
    refine Sq.nil ?_
    refine Eq.next ?_
    refine Cq.els rfl ?_
    refine Cq.exit ?_
    refine Eq.past ?_
    refine Eq.past ?_
    refine Eq.hit ?_
    refine Eq.next ?_
    refine Cq.seq ?_
    refine Cq.region ?_
    have hyes : (disTo (fN aa) (letters lt) (fun q => foundN kd gl aa (decL (szs aa) q)) dd) (fN aa q ((letters lt).getD k.toNat 0)) = dI - 1 := Classical.byContradiction fun h => hem (by rw [if_neg h]; rfl)
    have hlx := letters_at lt (k := k.toNat) (by omega)
    rw [if_pos hyes] at hnv
    refine Sq.move .plain rfl rfl ?_
    refine Sq.assign .plain rfl rfl ?_
    refine Sq.nil ?_
    refine Eq.next ?_
    refine Cq.region ?_
    refine Sq.move .plain rfl rfl ?_
    refine Sq.move .plain rfl rfl ?_
    refine Sq.move .plain rfl rfl ?_
    refine Sq.idxInts sl56 one3 (Own.row hl88) .plain rfl rfl rfl .plain rfl rfl (by omega) (by omega) ?_
    refine Sq.call fn98 .plain rfl rfl (l1Text_c ((letters lt).getD k.toNat 0) (by omega) _) ?_
    rintro _ w118 ⟨rfl, e119⟩
    have hs120 := Below.size E
    have hs121 := Below.size fzS
    have hs122 := Below.size fzM
    have hs123 := Below.size e119
    replace E := E.trans e119
    replace fzS := fzS.trans e119
    replace fzM := fzM.trans e119
    replace ho := ho.ext e119
    replace hl88 := hl88.ext e119
    replace hnv := hnv.ext e119
    refine Sq.cat .plain rfl rfl rfl (by rw [txt_size, chr_size]; omega) ?_
    refine Sq.assign .plain rfl rfl ?_
    refine Sq.nil ?_
    refine Eq.end ?_
    refine Eq.next ?_
    refine Cq.region ?_
    refine Sq.move .plain rfl rfl ?_
    refine Sq.sub .plain rfl rfl rfl (by omega) ?_
    refine Sq.assign .plain rfl rfl ?_
    refine Sq.nil ?_
    rw [← txt_snoc]
    have gstep := gre_next (f := (fN aa)) (L := (letters lt)) (dis := (disTo (fN aa) (letters lt) (fun q => foundN kd gl aa (decL (szs aa) q)) dd)) (m := (dI - 1).toNat) (k := k.toNat) (q := q) (by omega) (fun j hj h => hno j hj (by omega)) (by omega)
    rw [show (dI - 1).toNat + 1 = dI.toNat by omega] at gstep
    refine Eq.round _ _ ⟨u ++ [((letters lt).getD k.toNat 0)], (fN aa q ((letters lt).getD k.toNat 0)), _, _, rfl, hfN _ _ (getD_mem (by omega)), hyes.symm, fun h => ⟨by omega, by rw [(hpos h).2, gstep, List.append_assoc]; rfl⟩, fun h => absurd (hneg h).1 (by omega), by rw [List.length_append]; simp only [List.length_singleton]; omega, hnv, E, fzS, fzM, ho, hl88, rfl⟩ (by omega) (.cons rfl (.cons rfl (.cons rfl (.cons rfl (.cons rfl (.cons rfl (.nil)))))))
  refine Sq.nil ?_
  refine Eq.next ?_
  refine Cq.els rfl ?_
  refine Cq.exit ?_
  refine Eq.past ?_
  refine Eq.past ?_
  refine Eq.hit ?_
  refine Eq.next ?_
  refine Cq.seq ?_
  refine Cq.region ?_
  refine Sq.move .plain rfl rfl ?_
  refine Sq.move .plain rfl rfl ?_
  refine Sq.eql .plain rfl rfl rfl ?_
  refine Sq.assign .plain rfl rfl ?_
  refine Sq.assign .plain rfl rfl ?_
  refine Sq.nil ?_
  refine Eq.next ?_
  refine Cq.ret ?_
  refine Eq.ret2 rfl rfl rfl ?_
  have hfst := first_gre (f := (fN aa)) (L := (letters lt)) (G := (fun q => foundN kd gl aa (decL (szs aa) q))) (s := (encTo (szs aa) ss (szs aa).length)) (letters_sorted lt) (Nat.le_trans (ord_range hfN hS0b) (by omega)) (P := fun q => 0 ≤ q ∧ q < (((total aa) : Nat) : Int)) (fun q _ l hl => hfN q l hl) hS0b hstab
  by_cases h0 : 0 ≤ ((disTo (fN aa) (letters lt) (fun q => foundN kd gl aa (decL (szs aa) q)) dd) (encTo (szs aa) ss (szs aa).length))
  · obtain ⟨h1, h2⟩ := hpos h0
    have h3 : dI = 0 := by omega
    rw [if_pos h0] at hfst
    rw [h3] at h2
    have h4 : gre (fN aa) (letters lt) (disTo (fN aa) (letters lt) (fun q => foundN kd gl aa (decL (szs aa) q)) dd) ((disTo (fN aa) (letters lt) (fun q => foundN kd gl aa (decL (szs aa) q)) dd) (encTo (szs aa) ss (szs aa).length)).toNat (encTo (szs aa) ss (szs aa).length) = u := by rw [h2]; exact List.append_nil u
    exact ⟨by rw [hfst, h4, decide_eq_true h3]; rfl, E⟩
  rw [if_neg h0] at hfst
  obtain ⟨h1, h2⟩ := hneg (by omega)
  subst h2
  exact ⟨by rw [hfst, decide_eq_false (by omega)]; rfl, E⟩
end Go.Proofs.Ytdejmfkpohgamaa
set_option linter.unusedSimpArgs false
set_option linter.unusedVariables false
namespace Go.Proofs.Ytdejmfkpohgamaa
open Go.RowKit
set_option maxRecDepth 100000 in
theorem sCmp_c (w0 : World) (a b : A) (nx ac nx' ac' : Value) (hnx : Rows w0 56 3 nx a.next) (hac : Bools w0 4 ac a.acc) (hnx' : Rows w0 56 3 nx' b.next) (hac' : Bools w0 4 ac' b.acc) : Ret Try.prog 76 #[Value.agg #[Value.int .i64 a.al, nx, ac], Value.agg #[Value.int .i64 b.al, nx', ac']] w0 (fun v w => v = .bool (cmp2 a b) ∧ Ext w0 w) := by
  have E := Ext.refl w0
  refine Ret.of (args := [Value.agg #[Value.int .i64 a.al, nx, ac], Value.agg #[Value.int .i64 b.al, nx', ac']]) Try.func76 rfl rfl rfl ?_
  rintro _ rfl
  show Cq _ _ _ _ [(0, Value.agg #[Value.int .i64 a.al, nx, ac]), (1, Value.agg #[Value.int .i64 b.al, nx', ac'])] _
  refine Cq.seq ?_
  refine Cq.region ?_
  refine Sq.box .plain rfl rfl (fun b1 w2 e3 hB4 hlo5 => ?_)
  have hd6 := Nat.le_trans (Below.size E) hlo5
  have hs7 := Below.size e3
  replace E := E.trans e3
  refine Sq.box .plain rfl rfl (fun b8 w9 e10 hB11 hlo12 => ?_)
  have hd13 := Nat.le_trans (Below.size E) hlo12
  have hd14 := Nat.lt_of_lt_of_le hB4.lt hlo12
  have hs15 := Below.size e10
  replace E := E.trans e10
  replace hB4 := hB4.ext e10
  refine Sq.assign .plain rfl rfl ?_
  refine Sq.nil ?_
  refine Eq.next ?_
  refine Cq.seq ?_
  refine Cq.region ?_
  refine Sq.loadAgg agg26 .plain rfl rfl hB4 rfl ?_
  have hd19 := hB4.lt
  have hd20 := hB11.lt
  refine Sq.call fn52 .plain rfl rfl (sValid_c _ a _ _ (hnx.ext E) (hac.ext E)) ?_
  rintro _ w17 ⟨rfl, e18⟩
  have hs21 := Below.size E
  have hs22 := Below.size e18
  replace E := E.trans e18
  replace hB4 := hB4.ext e18
  replace hB11 := hB11.ext e18
  refine Sq.partB (fun hva => ?_) (fun hva => ?_)
  · refine Sq.move .plain rfl rfl ?_
    refine Sq.loadAgg agg26 (.met rfl rfl rfl) rfl rfl hB11 rfl ?_
    have hd26 := hB4.lt
    have hd27 := hB11.lt
    refine Sq.call fn52 (.met rfl rfl rfl) rfl rfl (sValid_c _ b _ _ (hnx'.ext E) (hac'.ext E)) ?_
    rintro _ w24 ⟨rfl, e25⟩
    have hs28 := Below.size E
    have hs29 := Below.size e25
    replace E := E.trans e25
    replace hB4 := hB4.ext e25
    replace hB11 := hB11.ext e25
    refine Sq.partB (fun hvb => ?_) (fun hvb => ?_)
    · refine Sq.pickT .plain rfl rfl rfl ?_
      refine Sq.move .plain rfl rfl ?_
      refine Sq.fieldAddr fld26_0 (.met rfl rfl rfl) rfl rfl ?_
      refine Sq.loadB one3 (.met rfl rfl rfl) rfl rfl hB4 rfl ?_
      refine Sq.fieldAddr fld26_0 (.met rfl rfl rfl) rfl rfl ?_
      refine Sq.loadB one3 (.met rfl rfl rfl) rfl rfl hB11 rfl ?_
      refine Sq.eql (.met rfl rfl rfl) rfl rfl rfl ?_
      refine Sq.pickT .plain rfl rfl rfl ?_
      refine Sq.assign .plain rfl rfl ?_
      refine Sq.nil ?_
      refine Eq.next ?_
      refine Cq.ret ?_
      refine Eq.ret1 rfl rfl ?_
      exact ⟨by simp [cmp2, hva, hvb], E⟩
    refine Sq.pickT .plain rfl rfl rfl ?_
    refine Sq.move .plain rfl rfl ?_
    refine Sq.off rfl rfl rfl rfl rfl rfl ?_
    refine Sq.off rfl rfl rfl rfl rfl rfl ?_
    refine Sq.off rfl rfl rfl rfl rfl rfl ?_
    refine Sq.off rfl rfl rfl rfl rfl rfl ?_
    refine Sq.off rfl rfl rfl rfl rfl rfl ?_
    refine Sq.pickF .plain rfl rfl rfl ?_
    refine Sq.assign .plain rfl rfl ?_
    refine Sq.nil ?_
    refine Eq.next ?_
    refine Cq.ret ?_
    refine Eq.ret1 rfl rfl ?_
    exact ⟨by simp [cmp2, hva, hvb], E⟩
  refine Sq.move .plain rfl rfl ?_
  refine Sq.off rfl rfl rfl rfl rfl rfl ?_
  refine Sq.off rfl rfl rfl rfl rfl rfl ?_
  refine Sq.pickF .plain rfl rfl rfl ?_
  refine Sq.move .plain rfl rfl ?_
  refine Sq.off rfl rfl rfl rfl rfl rfl ?_
  refine Sq.off rfl rfl rfl rfl rfl rfl ?_
  refine Sq.off rfl rfl rfl rfl rfl rfl ?_
  refine Sq.off rfl rfl rfl rfl rfl rfl ?_
  refine Sq.off rfl rfl rfl rfl rfl rfl ?_
  refine Sq.pickF .plain rfl rfl rfl ?_
  refine Sq.assign .plain rfl rfl ?_
  refine Sq.nil ?_
  refine Eq.next ?_
  refine Cq.ret ?_
  refine Eq.ret1 rfl rfl ?_
  exact ⟨by simp [cmp2, hva], E⟩
set_option maxRecDepth 100000 in
theorem sfOut_c (w0 : World) (a b : A) (nx ac nx' ac' : Value) (hnx : Rows w0 56 3 nx a.next) (hac : Bools w0 4 ac a.acc) (hnx' : Rows w0 56 3 nx' b.next) (hac' : Bools w0 4 ac' b.acc) : Ret Try.prog 75 #[Value.agg #[Value.int .i64 a.al, nx, ac], Value.agg #[Value.int .i64 b.al, nx', ac']] w0 (fun v w => v = resW (fOut a b) ∧ Ext w0 w) := by
  have E := Ext.refl w0
  refine Ret.of (args := [Value.agg #[Value.int .i64 a.al, nx, ac], Value.agg #[Value.int .i64 b.al, nx', ac']]) Try.func75 rfl rfl rfl ?_
  rintro _ rfl
  show Cq _ _ _ _ [(0, Value.agg #[Value.int .i64 a.al, nx, ac]), (1, Value.agg #[Value.int .i64 b.al, nx', ac'])] _
  refine Cq.seq ?_
  refine Cq.region ?_
  refine Sq.box .plain rfl rfl (fun b1 w2 e3 hB4 hlo5 => ?_)
  have hd6 := Nat.le_trans (Below.size E) hlo5
  have hs7 := Below.size e3
  replace E := E.trans e3
  refine Sq.box .plain rfl rfl (fun b8 w9 e10 hB11 hlo12 => ?_)
  have hd13 := Nat.le_trans (Below.size E) hlo12
  have hd14 := Nat.lt_of_lt_of_le hB4.lt hlo12
  have hs15 := Below.size e10
  replace E := E.trans e10
  replace hB4 := hB4.ext e10
  refine Sq.assign .plain rfl rfl ?_
  refine Sq.assign .plain rfl rfl ?_
  refine Sq.nil ?_
  refine Eq.next ?_
  refine Cq.seq ?_
  refine Cq.seq ?_
  refine Cq.region ?_
  refine Sq.loadAgg agg26 .plain rfl rfl hB4 rfl ?_
  refine Sq.loadAgg agg26 .plain rfl rfl hB11 rfl ?_
  have hd19 := hB4.lt
  have hd20 := hB11.lt
  refine Sq.call fn76 .plain rfl rfl (sCmp_c _ a b _ _ _ _ (hnx.ext E) (hac.ext E) (hnx'.ext E) (hac'.ext E)) ?_
  rintro _ w17 ⟨rfl, e18⟩
  have hs21 := Below.size E
  have hs22 := Below.size e18
  replace E := E.trans e18
  replace hB4 := hB4.ext e18
  replace hB11 := hB11.ext e18
  refine Sq.partB (fun hC => ?_) (fun hC => ?_)
  · refine Sq.notT .plain rfl rfl ?_
    refine Sq.nil ?_
    refine Eq.next ?_
    refine Cq.els rfl ?_
    refine Cq.skip ?_
    refine Eq.next ?_
    refine Cq.seq ?_
    refine Cq.region ?_
    refine Sq.loadAgg agg26 .plain rfl rfl hB4 rfl ?_
    refine Sq.loadAgg agg26 .plain rfl rfl hB11 rfl ?_
    refine Sq.litW slw102 rfl rfl (by decide) .plain rfl (rows := [[Value.int .i64 a.al, nx, ac], [Value.int .i64 b.al, nx', ac']]) rfl (fun r hr => (List.mem_cons.1 hr).elim (fun h => by rw [h]; exact ⟨rfl, (one_cons rfl (one_cons (Rows.one (hnx.ext E)) (one_cons (Row.one (hac.ext E)) one_nil)))⟩) (fun h => by rw [List.mem_singleton.1 h]; exact ⟨rfl, (one_cons rfl (one_cons (Rows.one (hnx'.ext E)) (one_cons (Row.one (hac'.ext E)) one_nil)))⟩)) (fun b23 w24 e25 hlo26 ho27 _ => ?_)
    have hs29 := Below.size e25
    replace E := E.trans e25
    replace hB4 := hB4.ext e25
    replace hB11 := hB11.ext e25
    have hN28 := NetA.of2 (ho27 _ (Nat.le_refl _)) (hnx.ext E) (hac.ext E) (hnx'.ext E) (hac'.ext E)
    refine Sq.lit sl56 rfl rfl .plain rfl rfl (one_cons rfl (one_cons rfl one_nil)) (fun b30 w31 e32 hlo33 ho34 _ => ?_)
    replace ho34 := ho34 w24.heap.size (Nat.le_refl _)
    have hs36 := Below.size e32
    replace E := E.trans e32
    replace hB4 := hB4.ext e32
    replace hB11 := hB11.ext e32
    replace hN28 := hN28.ext e32
    refine Sq.fieldAddr fld26_0 .plain rfl rfl ?_
    refine Sq.loadB one3 .plain rfl rfl hB4 rfl ?_
    refine Sq.build st105 rfl rfl .plain rfl rfl (one_cons rfl (one_cons (Row.one (Own.row ho34)) (one_cons rfl (one_cons rfl one_nil)))) rfl ?_
    have hd39 := hB4.lt
    have hd40 := hB11.lt
    refine Sq.call fn101 .plain rfl rfl (Ret.resW (l4First_c _ [a, b] _ _ ([0, 0] : List Int) a.al 2 0 hN28 (Own.row ho34) (netOk2 (cmp2_spec.1 hC).1 (cmp2_spec.1 hC).2.1) (stOk2 (zero_in (cmp2_spec.1 hC).1) (zero_in (cmp2_spec.1 hC).2.1)) rfl (.inr (.inr ⟨.inr rfl, rfl⟩)) (validA_spec.1 (cmp2_spec.1 hC).1).1) (net2 (g := (fun x y => x && !y)) (cmp2_spec.1 hC).1 (cmp2_spec.1 hC).2.1 (in_zero (cmp2_spec.1 hC).1 (cmp2_spec.1 hC).2.1) (fun p q => rfl))) ?_
    rintro _ w37 ⟨rfl, e38⟩
    have hs41 := Below.size E
    have hs42 := Below.size e38
    replace E := E.trans e38
    refine Sq.extract .plain rfl rfl rfl ?_
    refine Sq.extract .plain rfl rfl rfl ?_
    refine Sq.assign .plain rfl rfl ?_
    refine Sq.assign .plain rfl rfl ?_
    refine Sq.nil ?_
    refine Eq.next ?_
    refine Cq.ret ?_
    refine Eq.ret2 rfl rfl rfl ?_
    exact ⟨by rw [fOut, fTwo, if_pos hC]; rfl, E⟩
  refine Sq.notF .plain rfl rfl ?_
  refine Sq.nil ?_
  refine Eq.next ?_
  refine Cq.thn rfl ?_
  refine Cq.seq ?_
  refine Cq.region ?_
  refine Sq.assign .plain rfl rfl ?_
  refine Sq.assign .plain rfl rfl ?_
  refine Sq.nil ?_
  refine Eq.next ?_
  refine Cq.ret ?_
  refine Eq.pastRet ?_
  refine Eq.ret2 rfl rfl rfl ?_
  exact ⟨by rw [fOut, fTwo, if_neg (by rw [hC]; decide)]; rfl, E⟩
set_option maxRecDepth 100000 in
theorem sWithin2_c (w0 : World) (a b : A) (nx ac nx' ac' : Value) (hnx : Rows w0 56 3 nx a.next) (hac : Bools w0 4 ac a.acc) (hnx' : Rows w0 56 3 nx' b.next) (hac' : Bools w0 4 ac' b.acc) : Ret Try.prog 32 #[Value.agg #[Value.int .i64 a.al, nx, ac], Value.agg #[Value.int .i64 b.al, nx', ac']] w0 (fun v w => v = .bool (withinL a b) ∧ Ext w0 w) := by
  have E := Ext.refl w0
  refine Ret.of (args := [Value.agg #[Value.int .i64 a.al, nx, ac], Value.agg #[Value.int .i64 b.al, nx', ac']]) Try.func32 rfl rfl rfl ?_
  rintro _ rfl
  show Cq _ _ _ _ [(0, Value.agg #[Value.int .i64 a.al, nx, ac]), (1, Value.agg #[Value.int .i64 b.al, nx', ac'])] _
  refine Cq.seq ?_
  refine Cq.region ?_
  refine Sq.box .plain rfl rfl (fun b1 w2 e3 hB4 hlo5 => ?_)
  have hd6 := Nat.le_trans (Below.size E) hlo5
  have hs7 := Below.size e3
  replace E := E.trans e3
  refine Sq.box .plain rfl rfl (fun b8 w9 e10 hB11 hlo12 => ?_)
  have hd13 := Nat.le_trans (Below.size E) hlo12
  have hd14 := Nat.lt_of_lt_of_le hB4.lt hlo12
  have hs15 := Below.size e10
  replace E := E.trans e10
  replace hB4 := hB4.ext e10
  refine Sq.assign .plain rfl rfl ?_
  refine Sq.nil ?_
  refine Eq.next ?_
  refine Cq.seq ?_
  refine Cq.region ?_
  refine Sq.loadAgg agg26 .plain rfl rfl hB4 rfl ?_
  refine Sq.loadAgg agg26 .plain rfl rfl hB11 rfl ?_
  have hd19 := hB4.lt
  have hd20 := hB11.lt
  refine Sq.call fn75 .plain rfl rfl (sfOut_c _ a b _ _ _ _ (hnx.ext E) (hac.ext E) (hnx'.ext E) (hac'.ext E)) ?_
  rintro _ w17 ⟨rfl, e18⟩
  have hs21 := Below.size E
  have hs22 := Below.size e18
  replace E := E.trans e18
  replace hB4 := hB4.ext e18
  replace hB11 := hB11.ext e18
  refine Sq.move .plain rfl rfl ?_
  refine Sq.extract .plain rfl rfl rfl ?_
  refine Sq.extract .plain rfl rfl rfl ?_
  refine Sq.assign .plain rfl rfl ?_
  refine Sq.assign .plain rfl rfl ?_
  refine Sq.nil ?_
  refine Eq.next ?_
  refine Cq.seq ?_
  refine Cq.region ?_
  refine Sq.loadAgg agg26 .plain rfl rfl hB4 rfl ?_
  refine Sq.loadAgg agg26 .plain rfl rfl hB11 rfl ?_
  have hd26 := hB4.lt
  have hd27 := hB11.lt
  refine Sq.call fn76 .plain rfl rfl (sCmp_c _ a b _ _ _ _ (hnx.ext E) (hac.ext E) (hnx'.ext E) (hac'.ext E)) ?_
  rintro _ w24 ⟨rfl, e25⟩
  have hs28 := Below.size E
  have hs29 := Below.size e25
  replace E := E.trans e25
  refine Sq.partB (fun hC => ?_) (fun hC => ?_)
  · refine Sq.move .plain rfl rfl ?_
    refine Sq.move (.met rfl rfl rfl) rfl rfl ?_
    refine Sq.not (.met rfl rfl rfl) rfl rfl ?_
    refine Sq.pickT .plain rfl rfl rfl ?_
    refine Sq.assign .plain rfl rfl ?_
    refine Sq.nil ?_
    refine Eq.next ?_
    refine Cq.ret ?_
    refine Eq.ret1 rfl rfl ?_
    exact ⟨by simp [withinL, hC], E⟩
  refine Sq.move .plain rfl rfl ?_
  refine Sq.off rfl rfl rfl rfl rfl rfl ?_
  refine Sq.off rfl rfl rfl rfl rfl rfl ?_
  refine Sq.pickF .plain rfl rfl rfl ?_
  refine Sq.assign .plain rfl rfl ?_
  refine Sq.nil ?_
  refine Eq.next ?_
  refine Cq.ret ?_
  refine Eq.ret1 rfl rfl ?_
  exact ⟨by simp [withinL, hC], E⟩
end Go.Proofs.Ytdejmfkpohgamaa
set_option linter.unusedSimpArgs false
set_option linter.unusedVariables false
namespace Go.Proofs.Ytdejmfkpohgamaa
section
variable {a b : A}
theorem out_none (hC : cmp2 a b = true) : (fOut a b).isSome = !withinL a b := by rw [withinL, hC, Bool.true_and, Bool.not_not]
end
section
open Classical
variable {α : Type} {f : α → Int → α} {L : List Int} {G : α → Bool} {U : List α}
def Alike (f : α → Int → α) (L : List Int) (G : α → Bool) (k : Nat) (x y : α) : Prop := ∀ w : List Int, w.length < k → (∀ l ∈ w, l ∈ L) → G (nodeOf f x w) = G (nodeOf f y w)
theorem Alike.refl (k : Nat) (x : α) : Alike f L G k x x := fun _ _ _ => rfl
theorem Alike.symm {k : Nat} {x y : α} (h : Alike f L G k x y) : Alike f L G k y x := fun w h1 h2 => (h w h1 h2).symm
theorem Alike.trans {k : Nat} {x y z : α} (h : Alike f L G k x y) (h' : Alike f L G k y z) : Alike f L G k x z := fun w h1 h2 => (h w h1 h2).trans (h' w h1 h2)
end
section
variable {a b : A}
end
end Go.Proofs.Ytdejmfkpohgamaa
set_option linter.unusedSimpArgs false
set_option linter.unusedVariables false
namespace Go.Proofs.Ytdejmfkpohgamaa
def accW (a : A) (w : List Int) : Bool := accA a (run a 0 w)
section
variable {a b : A}
theorem acc_first (hv : validA a = true) : IsFirst (letters a.al) (accW a) (fAcc a) := by
  rw [fAcc, if_pos hv]
  exact isFirst_A hv (zero_in hv) (accA a)
theorem accW_num {α : Type} [DecidableEq α] {al : Int} {f : α → Int → α} {s : α} {acc : α → Bool} (hal : 0 ≤ al ∧ al ≤ 63) (h : (ord f s (letters al)).length ≤ 200) {w : List Int} (hw : ∀ x ∈ w, x ∈ letters al) : accW (num al f s acc) w = acc (nodeOf f s w) := by
  have h1 := run_num (acc := acc) hal h w (q := s) ord_mem0 hw
  rw [ord_zero' h] at h1
  unfold accW accA
  rw [show ((0 : Nat) : Int) = 0 from rfl] at h1
  rw [h1.1]
  exact acc_num h1.2
theorem accW_prod {k : Int} (h : prodOk a b k = true) {v : List Int} (hx : ∀ x ∈ v, x ∈ letters (orI a.al b.al)) : accW (prodA a b k) v = kindB k (accW a v) (accW b v) := by
  have hp := prodOk_spec.1 h
  unfold prodA
  rw [accW_num (prod_al hp.1 hp.2.1) (by have := hp.2.2.2; unfold ord2 at this; omega) hx]
  unfold acc2 accW nodeOf
  rw [fold2]
theorem prod_within (h : prodOk a b 2 = true) (hC : cmp2 a b = true) : fAcc (prodA a b 2) = fOut a b := by
  have hc := cmp2_spec.1 hC
  have e : orI a.al b.al = a.al := by rw [← hc.2.2]; exact orI_self (validA_spec.1 hc.1).1.1
  have hf := acc_first (prod_valid h)
  have e2 : (prodA a b 2).al = a.al := e
  rw [e2] at hf
  refine IsFirst.uniq hf (isFirst_two hC (fun x y => x && !y)) fun v hx => ?_
  rw [accW_prod h (by rw [e]; exact hx)]
  rfl
end
end Go.Proofs.Ytdejmfkpohgamaa
set_option linter.unusedSimpArgs false
set_option linter.unusedVariables false
namespace Go.Proofs.Ytdejmfkpohgamaa
section
variable {κ μ : Type} [DecidableEq κ] [DecidableEq μ] {xs : List κ}
def dd (xs : List κ) : List κ := addAll [] xs
end
section
variable {a : A}
end
end Go.Proofs.Ytdejmfkpohgamaa
set_option linter.unusedSimpArgs false
set_option linter.unusedVariables false
namespace Go.Proofs.Ytdejmfkpohgamaa
def rowQ (a : A) (cs : List Int) (q : Nat) : List Int := (a.next.getD q []).map fun t => cs.getD t.toNat 0
def quo (a : A) (cs : List Int) : A := ⟨a.al, (dd cs).map fun c => rowQ a cs (cs.idxOf c), (dd cs).map fun c => a.acc.getD (cs.idxOf c) false⟩
section
variable {a b : A}
end
section
variable {α β : Type} [DecidableEq α] [DecidableEq β] {f : α → Int → α} {s : α} {L : List Int} {f' : β → Int → β} {g : α → β}
def pick (f' : β → Int → β) (s' : β) (us : List (List Int)) (ws : List (List Int)) : List (List Int) := ws.foldl (fun us w => wadd f' s' us w) us
end
section
variable {a : A}
end
end Go.Proofs.Ytdejmfkpohgamaa
set_option linter.unusedSimpArgs false
set_option linter.unusedVariables false
namespace Go.Proofs.Ytdejmfkpohgamaa
open Go.RowKit
section
variable {P : Program} {N : Nat} {ops : Array Oper} {Q : Exit → Act → World → Prop} {rest : List Oper} {l : Slots} {w : World}
variable {d : Nat} {ty : TypeId} {pos : String} {after : Array Edge} {g : Option (Nat × Bool)}
end
section
variable {a b : A}
theorem bytes_same {s t : ByteArray} (h : s = t) : s.data.toList = t.data.toList := by rw [h]
end
end Go.Proofs.Ytdejmfkpohgamaa
set_option linter.unusedSimpArgs false
set_option linter.unusedVariables false
namespace Go.Proofs.Ytdejmfkpohgamaa
open Go.RowKit
set_option maxRecDepth 100000 in
theorem lProdWithin (w0 : World) (e : TypeId) (a0 : Option Addr) (c0 : Nat) (cs : List UInt8) (hc : Bytes w0 e (.slice a0 cs.length c0) cs) (hcap : cs.length ≤ c0) : Ret Try.prog 11 #[Value.slice a0 cs.length c0] w0 (fun v w => v = .bool true ∧ Ext w0 w) := by
  have E := Ext.refl w0
  refine Ret.of (args := [Value.slice a0 cs.length c0]) Try.func11 rfl rfl rfl ?_
  rintro _ rfl
  show Cq _ _ _ _ [(0, Value.slice a0 cs.length c0)] _
  refine Cq.seq ?_
  refine Cq.region ?_
  refine Sq.assign .plain rfl rfl ?_
  refine Sq.nil ?_
  refine Eq.next ?_
  refine Cq.seq ?_
  refine Cq.seq ?_
  refine Cq.region ?_
  refine Sq.move .plain rfl rfl ?_
  refine Sq.lenBytes (hc.ext E) .plain rfl und22 rfl ?_
  refine Sq.gtr .plain rfl rfl rfl ?_
  refine Sq.part (fun c1 => ?_) (fun c1 => ?_)
  · refine Sq.nil ?_
    refine Eq.next ?_
    refine Cq.thn rfl ?_
    refine Cq.seq ?_
    refine Cq.region ?_
    refine Sq.assign .plain rfl rfl ?_
    refine Sq.nil ?_
    refine Eq.next ?_
    refine Cq.ret ?_
    refine Eq.pastRet ?_
    refine Eq.ret1 rfl rfl ?_
    exact ⟨rfl, E⟩
  refine Sq.nil ?_
  refine Eq.next ?_
  refine Cq.els rfl ?_
  refine Cq.skip ?_
  refine Eq.next ?_
  refine Cq.seq ?_
  refine Cq.region ?_
  refine Sq.move .plain rfl rfl ?_
  refine Sq.call fn30 .plain rfl rfl (drawWithin_c _ _ _ _ _ (hc.ext E) hcap) ?_
  rintro v2 w3 ⟨⟨u5, v6, aX7, aY8, rfl, ⟨nxX9, acX10, rfl, hnX11, haX12⟩, ⟨nxY13, acY14, rfl, hnY15, haY16⟩, hsmX17, hsmY18⟩, e4⟩
  have hs19 := Below.size E
  have hs20 := Below.size e4
  replace E := E.trans e4
  refine Sq.move .plain rfl rfl ?_
  refine Sq.extract .plain rfl rfl rfl ?_
  refine Sq.extract .plain rfl rfl rfl ?_
  refine Sq.alloc zero26 .plain rfl (fun b21 w22 e23 hB24 hlo25 => ?_)
  have hd26 := Nat.le_trans (Below.size E) hlo25
  have hs27 := Below.size e23
  replace E := E.trans e23
  replace hnX11 := hnX11.ext e23
  replace haX12 := haX12.ext e23
  replace hnY15 := hnY15.ext e23
  replace haY16 := haY16.ext e23
  refine Sq.alloc zero26 .plain rfl (fun b28 w29 e30 hB31 hlo32 => ?_)
  have hd33 := Nat.le_trans (Below.size E) hlo32
  have hd34 := Nat.lt_of_lt_of_le hB24.lt hlo32
  have hs35 := Below.size e30
  replace E := E.trans e30
  replace hnX11 := hnX11.ext e30
  replace haX12 := haX12.ext e30
  replace hnY15 := hnY15.ext e30
  replace haY16 := haY16.ext e30
  replace hB24 := hB24.ext e30
  refine Sq.storeAgg agg26 .plain rfl rfl (one_cons rfl (one_cons (Rows.one hnX11) (one_cons (Row.one haX12) one_nil))) hB24 rfl rfl (fun w36 g37 hB38 => ?_)
  have hs39 := World.grownBy.size g37
  replace E := E.grown g37 (fun k hk => by injection hk with hk; subst hk; omega)
  replace hnX11 := hnX11.stored g37 hB24 (by decide) (by decide)
  replace haX12 := haX12.stored g37 hB24 (by decide)
  replace hnY15 := hnY15.stored g37 hB24 (by decide) (by decide)
  replace haY16 := haY16.stored g37 hB24 (by decide)
  replace hB31 := hB31.grown g37 (by intro h; injection h with h; omega)
  replace hB24 := hB38
  refine Sq.storeAgg agg26 .plain rfl rfl (one_cons rfl (one_cons (Rows.one hnY15) (one_cons (Row.one haY16) one_nil))) hB31 rfl rfl (fun w40 g41 hB42 => ?_)
  have hs43 := World.grownBy.size g41
  replace E := E.grown g41 (fun k hk => by injection hk with hk; subst hk; omega)
  replace hnX11 := hnX11.stored g41 hB31 (by decide) (by decide)
  replace haX12 := haX12.stored g41 hB31 (by decide)
  replace hnY15 := hnY15.stored g41 hB31 (by decide) (by decide)
  replace haY16 := haY16.stored g41 hB31 (by decide)
  replace hB24 := hB24.grown g41 (by intro h; injection h with h; omega)
  replace hB31 := hB42
  refine Sq.nil ?_
  refine Eq.next ?_
  refine Cq.seq ?_
  refine Cq.region ?_
  refine Sq.loadAgg agg26 .plain rfl rfl hB24 rfl ?_
  refine Sq.loadAgg agg26 .plain rfl rfl hB31 rfl ?_
  have hd47 := hB24.lt
  have hd48 := hB31.lt
  refine Sq.call fn31 .plain rfl rfl (within2_c _ aX7 aY8 _ _ _ _ hnX11 haX12 hnY15 haY16) ?_
  rintro _ w45 ⟨rfl, e46⟩
  have hs49 := Below.size E
  have hs50 := Below.size e46
  replace E := E.trans e46
  replace hnX11 := hnX11.ext e46
  replace haX12 := haX12.ext e46
  replace hnY15 := hnY15.ext e46
  replace haY16 := haY16.ext e46
  replace hB24 := hB24.ext e46
  replace hB31 := hB31.ext e46
  refine Sq.assign .plain rfl rfl ?_
  refine Sq.nil ?_
  refine Eq.next ?_
  refine Cq.seq ?_
  refine Cq.region ?_
  refine Sq.loadAgg agg26 .plain rfl rfl hB24 rfl ?_
  refine Sq.loadAgg agg26 .plain rfl rfl hB31 rfl ?_
  rcases Bool.eq_false_or_eq_true (prodOk aX7 aY8 2) with hC | hC
  · obtain ⟨hv, hv', hk, hl12⟩ := prodOk_spec.1 hC
    refine Sq.call fn16 .plain rfl rfl (prod_c_T _ aX7 aY8 _ _ _ _ hnX11 haX12 hnY15 haY16 2 hC) ?_
    rintro _ w51 ⟨⟨_, rfl, nx53, ac54, rfl, hn55, ha56⟩, e52⟩
    have hs57 := Below.size E
    have hs58 := Below.size e52
    replace E := E.trans e52
    replace hnX11 := hnX11.ext e52
    replace haX12 := haX12.ext e52
    replace hnY15 := hnY15.ext e52
    replace haY16 := haY16.ext e52
    replace hB24 := hB24.ext e52
    replace hB31 := hB31.ext e52
    refine Sq.move .plain rfl rfl ?_
    refine Sq.extract .plain rfl rfl rfl ?_
    refine Sq.extract .plain rfl rfl rfl ?_
    refine Sq.alloc zero26 .plain rfl (fun b59 w60 e61 hB62 hlo63 => ?_)
    have hd64 := Nat.le_trans (Below.size E) hlo63
    have hd65 := Nat.lt_of_lt_of_le hB24.lt hlo63
    have hd66 := Nat.lt_of_lt_of_le hB31.lt hlo63
    have hs67 := Below.size e61
    replace E := E.trans e61
    replace hnX11 := hnX11.ext e61
    replace haX12 := haX12.ext e61
    replace hnY15 := hnY15.ext e61
    replace haY16 := haY16.ext e61
    replace hB24 := hB24.ext e61
    replace hB31 := hB31.ext e61
    replace hn55 := hn55.ext e61
    replace ha56 := ha56.ext e61
    refine Sq.storeAgg agg26 .plain rfl rfl (one_cons rfl (one_cons (Rows.one (OwnRows.rows hn55)) (one_cons (Row.one (Own.row ha56)) one_nil))) hB62 rfl rfl (fun w68 g69 hB70 => ?_)
    have hs71 := World.grownBy.size g69
    replace E := E.grown g69 (fun k hk => by injection hk with hk; subst hk; omega)
    replace hnX11 := hnX11.stored g69 hB62 (by decide) (by decide)
    replace haX12 := haX12.stored g69 hB62 (by decide)
    replace hnY15 := hnY15.stored g69 hB62 (by decide) (by decide)
    replace haY16 := haY16.stored g69 hB62 (by decide)
    replace hB24 := hB24.grown g69 (by intro h; injection h with h; omega)
    replace hB31 := hB31.grown g69 (by intro h; injection h with h; omega)
    replace hn55 := hn55.stored g69 hB62 (by decide) (by decide)
    replace ha56 := ha56.stored g69 hB62 (by decide)
    replace hB62 := hB70
    refine Sq.assign .plain rfl rfl ?_
    refine Sq.nil ?_
    refine Eq.next ?_
    refine Cq.seq ?_
    refine Cq.seq ?_
    refine Cq.region ?_
    refine Sq.move .plain rfl rfl ?_
    refine Sq.loadAgg agg26 .plain rfl rfl hB24 rfl ?_
    refine Sq.loadAgg agg26 .plain rfl rfl hB31 rfl ?_
    have hd75 := hB24.lt
    have hd76 := hB31.lt
    have hd77 := hB62.lt
    refine Sq.call fn32 .plain rfl rfl (sWithin2_c _ aX7 aY8 _ _ _ _ hnX11 haX12 hnY15 haY16) ?_
    rintro _ w73 ⟨rfl, e74⟩
    have hs78 := Below.size E
    have hs79 := Below.size e74
    replace E := E.trans e74
    replace hnX11 := hnX11.ext e74
    replace haX12 := haX12.ext e74
    replace hnY15 := hnY15.ext e74
    replace haY16 := haY16.ext e74
    replace hB24 := hB24.ext e74
    replace hB31 := hB31.ext e74
    replace hn55 := hn55.ext e74
    replace ha56 := ha56.ext e74
    replace hB62 := hB62.ext e74
    refine Sq.neqB und4 .plain rfl rfl rfl ?_
    refine Sq.beF (by simp) ?_
    refine Sq.move .plain rfl rfl ?_
    refine Sq.move (.met rfl rfl rfl) rfl rfl ?_
    refine Sq.notT (.met rfl rfl rfl) rfl rfl ?_
    refine Sq.pickF .plain rfl rfl rfl ?_
    refine Sq.move .plain rfl rfl ?_
    refine Sq.loadAgg agg26 (.met rfl rfl rfl) rfl rfl hB24 rfl ?_
    refine Sq.loadAgg agg26 (.met rfl rfl rfl) rfl rfl hB31 rfl ?_
    have hd83 := hB24.lt
    have hd84 := hB31.lt
    have hd85 := hB62.lt
    refine Sq.call fn33 (.met rfl rfl rfl) rfl rfl (agTwo_c _ aX7 aY8 _ _ _ _ hnX11 haX12 hnY15 haY16) ?_
    rintro _ w81 ⟨rfl, e82⟩
    have hs86 := Below.size E
    have hs87 := Below.size e82
    replace E := E.trans e82
    replace hnX11 := hnX11.ext e82
    replace haX12 := haX12.ext e82
    replace hnY15 := hnY15.ext e82
    replace haY16 := haY16.ext e82
    replace hB24 := hB24.ext e82
    replace hB31 := hB31.ext e82
    replace hn55 := hn55.ext e82
    replace ha56 := ha56.ext e82
    replace hB62 := hB62.ext e82
    refine Sq.partB (fun hC2 => ?_) (fun hC2 => ?_)
    · refine Sq.notT (.met rfl rfl rfl) rfl rfl ?_
      refine Sq.pickF .plain rfl rfl rfl ?_
      refine Sq.nil ?_
      refine Eq.next ?_
      refine Cq.els rfl ?_
      refine Cq.skip ?_
      refine Eq.next ?_
      refine Cq.seq ?_
      refine Cq.region ?_
      refine Sq.loadAgg agg26 .plain rfl rfl hB62 rfl ?_
      have hd91 := hB24.lt
      have hd92 := hB31.lt
      have hd93 := hB62.lt
      refine Sq.call fn23 .plain rfl rfl (fAcc_c _ (prodA aX7 aY8 2) _ _ (OwnRows.rows hn55) (Own.row ha56)) ?_
      rintro _ w89 ⟨rfl, e90⟩
      have hs94 := Below.size E
      have hs95 := Below.size e90
      replace E := E.trans e90
      replace hnX11 := hnX11.ext e90
      replace haX12 := haX12.ext e90
      replace hnY15 := hnY15.ext e90
      replace haY16 := haY16.ext e90
      replace hB24 := hB24.ext e90
      replace hB31 := hB31.ext e90
      replace hB62 := hB62.ext e90
      refine Sq.move .plain rfl rfl ?_
      refine Sq.extract .plain rfl rfl rfl ?_
      refine Sq.extract .plain rfl rfl rfl ?_
      refine Sq.assign .plain rfl rfl ?_
      refine Sq.assign .plain rfl rfl ?_
      refine Sq.nil ?_
      refine Eq.next ?_
      refine Cq.seq ?_
      refine Cq.region ?_
      refine Sq.loadAgg agg26 .plain rfl rfl hB24 rfl ?_
      refine Sq.loadAgg agg26 .plain rfl rfl hB31 rfl ?_
      have hd99 := hB24.lt
      have hd100 := hB31.lt
      have hd101 := hB62.lt
      refine Sq.call fn34 .plain rfl rfl (fOut_c _ aX7 aY8 _ _ _ _ hnX11 haX12 hnY15 haY16) ?_
      rintro _ w97 ⟨rfl, e98⟩
      have hs102 := Below.size E
      have hs103 := Below.size e98
      replace E := E.trans e98
      refine Sq.move .plain rfl rfl ?_
      refine Sq.extract .plain rfl rfl rfl ?_
      refine Sq.extract .plain rfl rfl rfl ?_
      refine Sq.assign .plain rfl rfl ?_
      refine Sq.assign .plain rfl rfl ?_
      refine Sq.nil ?_
      refine Eq.next ?_
      refine Cq.seq ?_
      refine Cq.region ?_
      refine Sq.move .plain rfl rfl ?_
      refine Sq.move .plain rfl rfl ?_
      refine Sq.not .plain rfl rfl ?_
      refine Sq.eqlB und4 .plain rfl rfl rfl ?_
      refine Sq.beT (by rw [prod_within hC hC2, out_none hC2, Bool.not_not]; exact beq_self_eq_true _) ?_
      refine Sq.move .plain rfl rfl ?_
      refine Sq.move (.met rfl rfl rfl) rfl rfl ?_
      refine Sq.move (.met rfl rfl rfl) rfl rfl ?_
      refine Sq.eqlS (.met rfl rfl rfl) rfl rfl rfl ?_
      refine Sq.isT (bytes_same (by rw [prod_within hC hC2])) ?_
      refine Sq.pickT .plain rfl rfl rfl ?_
      refine Sq.move .plain rfl rfl ?_
      refine Sq.move (.met rfl rfl rfl) rfl rfl ?_
      refine Sq.move (.met rfl rfl rfl) rfl rfl ?_
      refine Sq.eqlB und4 (.met rfl rfl rfl) rfl rfl rfl ?_
      refine Sq.beT (by rw [prod_within hC hC2]; exact beq_self_eq_true _) ?_
      refine Sq.pickT .plain rfl rfl rfl ?_
      refine Sq.assign .plain rfl rfl ?_
      refine Sq.nil ?_
      refine Eq.next ?_
      refine Cq.ret ?_
      refine Eq.ret1 rfl rfl ?_
      exact ⟨rfl, E⟩
    refine Sq.notF (.met rfl rfl rfl) rfl rfl ?_
    refine Sq.pickF .plain rfl rfl rfl ?_
    refine Sq.nil ?_
    refine Eq.next ?_
    refine Cq.thn rfl ?_
    refine Cq.seq ?_
    refine Cq.region ?_
    refine Sq.move .plain rfl rfl ?_
    refine Sq.loadAgg agg26 .plain rfl rfl hB24 rfl ?_
    refine Sq.loadAgg agg26 .plain rfl rfl hB31 rfl ?_
    have hd107 := hB24.lt
    have hd108 := hB31.lt
    have hd109 := hB62.lt
    refine Sq.call fn32 .plain rfl rfl (sWithin2_c _ aX7 aY8 _ _ _ _ hnX11 haX12 hnY15 haY16) ?_
    rintro _ w105 ⟨rfl, e106⟩
    have hs110 := Below.size E
    have hs111 := Below.size e106
    replace E := E.trans e106
    refine Sq.eqlB und4 .plain rfl rfl rfl ?_
    refine Sq.beT (beq_self_eq_true _) ?_
    refine Sq.assign .plain rfl rfl ?_
    refine Sq.nil ?_
    refine Eq.next ?_
    refine Cq.ret ?_
    refine Eq.pastRet ?_
    refine Eq.ret1 rfl rfl ?_
    exact ⟨rfl, E⟩
  refine Sq.call fn16 .plain rfl rfl (prod_c_F _ aX7 aY8 _ _ _ _ hnX11 haX12 hnY15 haY16 2 hC) ?_
  rintro _ w112 ⟨⟨_, rfl, nx114, ac115, rfl, hn116, ha117⟩, e113⟩
  have hs118 := Below.size E
  have hs119 := Below.size e113
  replace E := E.trans e113
  replace hnX11 := hnX11.ext e113
  replace haX12 := haX12.ext e113
  replace hnY15 := hnY15.ext e113
  replace haY16 := haY16.ext e113
  replace hB24 := hB24.ext e113
  replace hB31 := hB31.ext e113
  refine Sq.move .plain rfl rfl ?_
  refine Sq.extract .plain rfl rfl rfl ?_
  refine Sq.extract .plain rfl rfl rfl ?_
  refine Sq.alloc zero26 .plain rfl (fun b120 w121 e122 hB123 hlo124 => ?_)
  have hd125 := Nat.le_trans (Below.size E) hlo124
  have hd126 := Nat.lt_of_lt_of_le hB24.lt hlo124
  have hd127 := Nat.lt_of_lt_of_le hB31.lt hlo124
  have hs128 := Below.size e122
  replace E := E.trans e122
  replace hnX11 := hnX11.ext e122
  replace haX12 := haX12.ext e122
  replace hnY15 := hnY15.ext e122
  replace haY16 := haY16.ext e122
  replace hB24 := hB24.ext e122
  replace hB31 := hB31.ext e122
  replace hn116 := hn116.ext e122
  replace ha117 := ha117.ext e122
  refine Sq.storeAgg agg26 .plain rfl rfl (one_cons rfl (one_cons (Rows.one (OwnRows.rows hn116)) (one_cons (Row.one (Own.row ha117)) one_nil))) hB123 rfl rfl (fun w129 g130 hB131 => ?_)
  have hs132 := World.grownBy.size g130
  replace E := E.grown g130 (fun k hk => by injection hk with hk; subst hk; omega)
  replace hnX11 := hnX11.stored g130 hB123 (by decide) (by decide)
  replace haX12 := haX12.stored g130 hB123 (by decide)
  replace hnY15 := hnY15.stored g130 hB123 (by decide) (by decide)
  replace haY16 := haY16.stored g130 hB123 (by decide)
  replace hB24 := hB24.grown g130 (by intro h; injection h with h; omega)
  replace hB31 := hB31.grown g130 (by intro h; injection h with h; omega)
  replace hB123 := hB131
  refine Sq.assign .plain rfl rfl ?_
  refine Sq.nil ?_
  refine Eq.next ?_
  refine Cq.seq ?_
  refine Cq.seq ?_
  refine Cq.region ?_
  refine Sq.move .plain rfl rfl ?_
  refine Sq.loadAgg agg26 .plain rfl rfl hB24 rfl ?_
  refine Sq.loadAgg agg26 .plain rfl rfl hB31 rfl ?_
  have hd136 := hB24.lt
  have hd137 := hB31.lt
  have hd138 := hB123.lt
  refine Sq.call fn32 .plain rfl rfl (sWithin2_c _ aX7 aY8 _ _ _ _ hnX11 haX12 hnY15 haY16) ?_
  rintro _ w134 ⟨rfl, e135⟩
  have hs139 := Below.size E
  have hs140 := Below.size e135
  replace E := E.trans e135
  replace hnX11 := hnX11.ext e135
  replace haX12 := haX12.ext e135
  replace hnY15 := hnY15.ext e135
  replace haY16 := haY16.ext e135
  replace hB24 := hB24.ext e135
  replace hB31 := hB31.ext e135
  replace hB123 := hB123.ext e135
  refine Sq.neqB und4 .plain rfl rfl rfl ?_
  refine Sq.beF (by simp) ?_
  refine Sq.move .plain rfl rfl ?_
  refine Sq.move (.met rfl rfl rfl) rfl rfl ?_
  refine Sq.notF (.met rfl rfl rfl) rfl rfl ?_
  refine Sq.pickF .plain rfl rfl rfl ?_
  refine Sq.move .plain rfl rfl ?_
  refine Sq.off rfl rfl rfl rfl rfl rfl ?_
  refine Sq.off rfl rfl rfl rfl rfl rfl ?_
  refine Sq.off rfl rfl rfl rfl rfl rfl ?_
  refine Sq.off rfl rfl rfl rfl rfl rfl ?_
  refine Sq.pickT .plain rfl rfl rfl ?_
  refine Sq.nil ?_
  refine Eq.next ?_
  refine Cq.thn rfl ?_
  refine Cq.seq ?_
  refine Cq.region ?_
  refine Sq.move .plain rfl rfl ?_
  refine Sq.loadAgg agg26 .plain rfl rfl hB24 rfl ?_
  refine Sq.loadAgg agg26 .plain rfl rfl hB31 rfl ?_
  have hd144 := hB24.lt
  have hd145 := hB31.lt
  have hd146 := hB123.lt
  refine Sq.call fn32 .plain rfl rfl (sWithin2_c _ aX7 aY8 _ _ _ _ hnX11 haX12 hnY15 haY16) ?_
  rintro _ w142 ⟨rfl, e143⟩
  have hs147 := Below.size E
  have hs148 := Below.size e143
  replace E := E.trans e143
  refine Sq.eqlB und4 .plain rfl rfl rfl ?_
  refine Sq.beT (beq_self_eq_true _) ?_
  refine Sq.assign .plain rfl rfl ?_
  refine Sq.nil ?_
  refine Eq.next ?_
  refine Cq.ret ?_
  refine Eq.pastRet ?_
  refine Eq.ret1 rfl rfl ?_
  exact ⟨rfl, E⟩
end Go.Proofs.Ytdejmfkpohgamaa
set_option linter.unusedSimpArgs false
set_option linter.unusedVariables false
namespace Go.Proofs.Ytdejmfkpohgamaa
open Go.RowKit
def IsRow (k : IntKind) (w : World) (a : Option Addr) (len cap : Nat) (zs : List Int) : Prop :=
  (a = none ∧ len = 0 ∧ cap = 0 ∧ zs = []) ∨
  ∃ x, a = some x ∧ len ≤ cap ∧ cap ≤ maxLen ∧ zs.length = cap ∧ (∀ i, i < zs.length → w.cell? (x.add i) = some (.int k (zs.getD i 0))) ∧ ∀ n ∈ zs, (Lit.int k n).wf = true
theorem wf8 {n : Int} (h : (Lit.int .u8 n).wf = true) : 0 ≤ n ∧ n ≤ 255 := by
  simp [Lit.wf, IntKind.min, IntKind.max, IntKind.signed, IntKind.bits] at h
  omega
theorem bytes_of {w : World} {a : Option Addr} {len cap : Nat} {zs : List Int} (h : IsRow .u8 w a len cap zs) : ∃ e xs, len = List.length xs ∧ Bytes w e (.slice a xs.length cap) xs ∧ xs.length ≤ cap := by
  rcases h with ⟨rfl, rfl, rfl, rfl⟩ | ⟨x, rfl, hl, hm, hz, hcell, hwz⟩
  · exact ⟨0, [], rfl, .inl ⟨rfl, none, 0, rfl, fun _ => rfl⟩, Nat.le_refl _⟩
  · rcases Nat.eq_zero_or_pos len with h0 | h0
    · subst h0
      exact ⟨0, [], rfl, .inl ⟨rfl, some x, cap, rfl, fun h => by cases h⟩, Nat.zero_le _⟩
    · obtain ⟨b, o, s⟩ := x
      have hc := hcell 0 (by omega)
      have hs : s = none := by simpa [Addr.add] using World.cell?_spot hc
      subst hs
      have hb : ∃ cur e fr, w.heap[b]? = some (.cells cur e fr) := by
        rw [addr_add] at hc
        unfold World.cell? at hc
        simp only at hc
        cases hw : w.heap[b]? with
        | none => rw [hw] at hc; simp at hc
        | some ob =>
          rw [hw] at hc
          cases ob <;> simp at hc
          rename_i cur e fr
          exact ⟨cur, e, fr, rfl⟩
      obtain ⟨cur, e, fr, hb⟩ := hb
      have hlen : ((zs.take len).map fun z => UInt8.ofNat z.toNat).length = len := by simp; omega
      refine ⟨e, (zs.take len).map fun z => UInt8.ofNat z.toNat, hlen.symm, .inr ⟨b, o, cap, cur, fr, by simp, hb, fun i y hy => ?_⟩, by omega⟩
      have hi : i < len := by
        have := (List.getElem?_eq_some_iff.1 hy).1
        simp at this; omega
      have hi2 : i < zs.length := by omega
      have h1 := hcell i hi2
      rw [addr_add] at h1
      have h2 : y = .int .u8 (zs.getD i 0) := by
        have hw := wf8 (hwz _ (List.getElem_mem hi2))
        have e2 := u8_of hw
        simp [List.getElem?_take, hi, hi2] at hy
        rw [← hy]
        simp [hi2]
        omega
      rw [h2]
      simpa [World.cell?, hb] using h1
end Go.Proofs.Ytdejmfkpohgamaa
