/-
  Walks, printed by a program out of the translation and a contract for each function; each step is one law.
-/
import Derived.Test.YtdkdpmmfebdeaaaPc
import Derived.Test.YtdkdpmmfebdeaaaNet
import Derived.Test.YtdkdpmmfebdeaaaWp
set_option linter.unusedSimpArgs false
set_option linter.unusedVariables false
namespace Go.Proofs.Ytdkdpmmfebdeaaa
open Go.RowKit

set_option maxRecDepth 100000 in
theorem l4Sizes_c (w0 : World) (aa : List A) (av sv : Value) (ss : List Int) (lt kd gl : Int) (hN : NetA w0 27 52 3 4 av aa) (hS : Ints w0 3 sv ss) (hlen : aa.length ≤ 2) : Ret Try.prog 87 #[Value.agg #[Value.slice none 0 0, av, sv, Value.int .i64 lt, Value.int .i64 kd, Value.int .i64 gl]] w0 (fun v w => Own w w0.heap.size 3 v ((szs aa).map (Value.int .i64)) ∧ Ext w0 w) := by
  have E := Ext.refl w0
  obtain ⟨BN, rows, hW, hrl, hat⟩ := id hN
  refine Ret.of (args := [Value.agg #[Value.slice none 0 0, av, sv, Value.int .i64 lt, Value.int .i64 kd, Value.int .i64 gl]]) Try.func87 rfl rfl rfl ?_
  rintro _ rfl
  show Cq _ _ _ _ [(0, Value.agg #[Value.slice none 0 0, av, sv, Value.int .i64 lt, Value.int .i64 kd, Value.int .i64 gl])] _
  refine Cq.seq ?_
  refine Cq.region ?_
  refine Sq.box .plain rfl rfl (fun b1 w2 e3 hB4 hlo5 => ?_)
  have hd6 := Nat.le_trans (Below.size E) hlo5
  have hs7 := Below.size e3
  replace E := E.trans e3
  replace hW := hW.ext e3
  refine Sq.assign .plain rfl rfl ?_
  refine Sq.nil ?_
  refine Eq.next ?_
  refine Cq.seq ?_
  refine Cq.region ?_
  refine Sq.lit sl52 rfl rfl .plain rfl rfl one_nil (fun b8 w9 e10 hlo11 ho12 _ => ?_)
  replace ho12 := ho12 w2.heap.size (Nat.le_refl _)
  have hs14 := Below.size e10
  replace E := E.trans e10
  replace hW := hW.ext e10
  replace hB4 := hB4.ext e10
  refine Sq.assign .plain rfl rfl ?_
  refine Sq.nil ?_
  refine Eq.next ?_
  refine Cq.seq ?_
  refine Cq.seq ?_
  refine Cq.region ?_
  refine Sq.assign .plain rfl rfl ?_
  refine Sq.nil ?_
  refine Eq.next ?_
  refine Cq.block ?_
  refine Cq.loop (fun nn w ls => ∃ (k : Int), ∃ (ov : Value), ls = [(1, Value.pointer (some ⟨b1, 0, none⟩)), (3, ov), (4, Value.int .i64 k)] ∧ k = 0 ∧ Own w w0.heap.size 3 ov ([] : List Value) ∧ Ext w0 w ∧ Blk w b1 70 [Value.slice none 0 0, av, sv, Value.int .i64 lt, Value.int .i64 kd, Value.int .i64 gl] ∧ Wid w BN 27 3 av rows ∧ nn = k.toNat) _ _ ⟨0, _, rfl, rfl, Own.mono ho12 (by omega), E, hB4, hW, rfl⟩ (.cons rfl (.cons rfl (.cons rfl (.nil)))) ?_
  rintro nn wl1 ls ⟨k, ov, rfl, hk, ho, E, hB4, hW, rfl⟩
  have hs15 := Below.size E
  refine Cq.seq ?_
  refine Cq.seq ?_
  refine Cq.region ?_
  refine Sq.move .plain rfl rfl ?_
  refine Sq.fieldAddr fld70_0 .plain rfl rfl ?_
  refine Sq.loadB one68 .plain rfl rfl hB4 rfl ?_
  refine Sq.len .plain rfl und68 rfl ?_
  refine Sq.lss .plain rfl rfl rfl ?_
  refine Sq.part (fun c16 => ?_) (fun c16 => ?_)
  · refine Sq.nil ?_
    refine Eq.next ?_
    refine Cq.thn rfl ?_
    refine Cq.skip ?_
    refine Eq.next ?_
    refine Cq.seq ?_
    refine Cq.block ?_
    refine Cq.region ?_
    exfalso
    omega
  · refine Sq.nil ?_
    refine Eq.next ?_
    refine Cq.els rfl ?_
    refine Cq.exit ?_
    refine Eq.past ?_
    refine Eq.past ?_
    refine Eq.hit ?_
    refine Eq.next ?_
    refine Cq.seq ?_
    refine Cq.seq ?_
    refine Cq.region ?_
    refine Sq.assign .plain rfl rfl ?_
    refine Sq.nil ?_
    refine Eq.next ?_
    refine Cq.block ?_
    refine Cq.loop (fun nn w ls => ∃ (k : Int), ∃ (ov : Value), ls = [(1, Value.pointer (some ⟨b1, 0, none⟩)), (3, ov), (5, Value.int .i64 k)] ∧ (0 ≤ k ∧ k ≤ aa.length) ∧ Own w w0.heap.size 3 ov (((szs aa).take k.toNat).map (Value.int .i64)) ∧ Ext w0 w ∧ Blk w b1 70 [Value.slice none 0 0, av, sv, Value.int .i64 lt, Value.int .i64 kd, Value.int .i64 gl] ∧ Wid w BN 27 3 av rows ∧ nn = ((aa.length : Int) - k).toNat) _ _ ⟨0, _, rfl, by omega, Own.mono ho (by omega), E, hB4, hW, rfl⟩ (.cons rfl (.cons rfl (.cons rfl (.nil)))) ?_
    rintro nn wl2 ls ⟨k, ov, rfl, hk, ho, E, hB4, hW, rfl⟩
    have hs17 := Below.size E
    refine Cq.seq ?_
    refine Cq.seq ?_
    refine Cq.region ?_
    refine Sq.move .plain rfl rfl ?_
    refine Sq.fieldAddr fld70_1 .plain rfl rfl ?_
    refine Sq.loadB one67 .plain rfl rfl hB4 rfl ?_
    refine Sq.lenWid hW .plain rfl und67 rfl ?_
    rw [hrl]
    refine Sq.lss .plain rfl rfl rfl ?_
    refine Sq.part (fun c18 => ?_) (fun c18 => ?_)
    · refine Sq.nil ?_
      refine Eq.next ?_
      refine Cq.thn rfl ?_
      refine Cq.skip ?_
      refine Eq.next ?_
      refine Cq.seq ?_
      refine Cq.block ?_
      refine Cq.region ?_
      refine Sq.move .plain rfl rfl ?_
      refine Sq.fieldAddr fld70_1 .plain rfl rfl ?_
      refine Sq.loadB one67 .plain rfl rfl hB4 rfl ?_
      refine Sq.move .plain rfl rfl ?_
      obtain ⟨nxq19, acq19, hrq19, hnxq19, hacq19⟩ := hat k.toNat (aa.getD k.toNat zeroA) (at_getD (by omega))
      obtain ⟨gq19, cq19, hvq19, hlq19⟩ := Wid.rowAt hW (i := k) (by omega) hrq19
      refine Sq.val .plain rfl rfl (Still.ixV slw67 hvq19 rfl rfl (by omega)) ?_
      refine Sq.fieldAddr fld27_1 .plain rfl rfl ?_
      refine Sq.val .plain rfl rfl (Still.load one22 rfl (Wid.cellR hvq19 hW (by omega) hrq19 (j := 1) (by decide))) ?_
      refine Sq.lenRows (hnxq19.ext E) .plain rfl und22 rfl ?_
      refine Sq.app1 sl52 ho (by omega) (by rw [List.length_map, List.length_take]; omega) .plain rfl rfl rfl rfl rfl rfl rfl (fun v20 w21 ho23 g22 _ => ?_)
      have hs24 := g22.size
      replace E := E.owned ho g22 (by omega)
      replace hB4 := hB4.owned ho g22 (by decide)
      replace hW := hW.owned ho g22 (by decide)
      refine Sq.assign .plain rfl rfl ?_
      refine Sq.nil ?_
      refine Eq.end ?_
      refine Eq.next ?_
      refine Cq.region ?_
      refine Sq.move .plain rfl rfl ?_
      refine Sq.add .plain rfl rfl rfl (by omega) ?_
      refine Sq.assign .plain rfl rfl ?_
      refine Sq.nil ?_
      have e1 := toNat_succ hk.1
      refine Eq.round _ _ ⟨k + 1, _, rfl, by omega, by rw [e1, take_snoc 0 (by rw [szs_length]; omega), List.map_append, szs_at (by omega)]; exact ho23, E, hB4, hW, rfl⟩ (by omega) (.cons rfl (.cons rfl (.cons rfl (.nil))))
    · refine Sq.nil ?_
      refine Eq.next ?_
      refine Cq.els rfl ?_
      refine Cq.exit ?_
      refine Eq.past ?_
      refine Eq.past ?_
      refine Eq.hit ?_
      refine Eq.next ?_
      refine Cq.seq ?_
      refine Cq.region ?_
      refine Sq.move .plain rfl rfl ?_
      refine Sq.assign .plain rfl rfl ?_
      refine Sq.nil ?_
      refine Eq.next ?_
      refine Cq.ret ?_
      refine Eq.ret1 rfl rfl ?_
      rw [List.take_of_length_le (by rw [szs_length]; omega)] at ho
      exact ⟨ho, E⟩

set_option maxRecDepth 100000 in
theorem l4Decode_c (w0 : World) (ss : List Int) (r : Value) (hr : Ints w0 3 r ss) (q : Int) (hs : SzOk ss) (hq : 0 ≤ q ∧ q ≤ 1000) : Ret Try.prog 90 #[r, Value.int .i64 q] w0 (fun v w => Own w w0.heap.size 3 v ((decL ss q).map (Value.int .i64)) ∧ Ext w0 w) := by
  have E := Ext.refl w0
  have hsl := hs.1
  refine Ret.of (args := [r, Value.int .i64 q]) Try.func90 rfl rfl rfl ?_
  rintro _ rfl
  show Cq _ _ _ _ [(0, r), (1, Value.int .i64 q)] _
  refine Cq.seq ?_
  refine Cq.region ?_
  refine Sq.assign .plain rfl rfl ?_
  refine Sq.nil ?_
  refine Eq.next ?_
  refine Cq.seq ?_
  refine Cq.region ?_
  refine Sq.move .plain rfl rfl ?_
  refine Sq.lenInts (hr.ext E) .plain rfl und52 rfl ?_
  refine Sq.make sl52 .plain rfl rfl rfl rfl (by omega) (fun b1 w2 e3 hlo4 hB5 => ?_)
  replace hB5 := hB5 w0.heap.size (Nat.le_refl _)
  have hs6 := Below.size e3
  replace E := E.trans e3
  refine Sq.assign .plain rfl rfl ?_
  refine Sq.nil ?_
  refine Eq.next ?_
  refine Cq.seq ?_
  refine Cq.seq ?_
  refine Cq.region ?_
  refine Sq.move .plain rfl rfl ?_
  refine Sq.lenInts (hr.ext E) .plain rfl und52 rfl ?_
  refine Sq.sub .plain rfl rfl rfl (by omega) ?_
  refine Sq.assign .plain rfl rfl ?_
  refine Sq.nil ?_
  refine Eq.next ?_
  refine Cq.block ?_
  refine Cq.loop (fun nn w ls => ∃ (i : Int), ∃ (qv : Int), ls = [(0, r), (1, Value.int .i64 qv), (5, Value.slice (some ⟨b1, 0, none⟩) (List.length ss : Int).toNat (List.length ss : Int).toNat), (6, Value.int .i64 i)] ∧ (-1 ≤ i ∧ i < ss.length) ∧ qv = q / prodFrom ss (i + 1).toNat ∧ Own w w0.heap.size 3 (Value.slice (some ⟨b1, 0, none⟩) (List.length ss : Int).toNat (List.length ss : Int).toNat) ((decTo ss q (i + 1).toNat).map (Value.int .i64)) ∧ Ext w0 w ∧ nn = (i + 1).toNat) _ _ ⟨(List.length ss : Int) - 1, q, rfl, by omega, by rw [prodFrom_end (by omega), Int.ediv_one], by rw [decTo_all q (by omega), List.map_replicate]; exact hB5, E, rfl⟩ (.cons rfl (.cons rfl (.cons rfl (.cons rfl (.nil))))) ?_
  rintro nn wl1 ls ⟨i, qv, rfl, hi, hqv, ho, E, rfl⟩
  have hs7 := Below.size E
  have hnb := node_bd hs hq (i + 1).toNat
  rw [← hqv] at hnb
  have hdl := decTo_length ss q (i + 1).toNat
  have hsi : 0 ≤ i → 1 ≤ ss.getD i.toNat 0 ∧ ss.getD i.toNat 0 ≤ 12 := fun h => hs.2 _ (by omega)
  refine Cq.seq ?_
  refine Cq.seq ?_
  refine Cq.region ?_
  refine Sq.move .plain rfl rfl ?_
  refine Sq.geq .plain rfl rfl rfl ?_
  refine Sq.part (fun c8 => ?_) (fun c8 => ?_)
  · refine Sq.nil ?_
    refine Eq.next ?_
    refine Cq.thn rfl ?_
    refine Cq.skip ?_
    refine Eq.next ?_
    refine Cq.seq ?_
    refine Cq.block ?_
    refine Cq.seq ?_
    refine Cq.region ?_
    refine Sq.move .plain rfl rfl ?_
    refine Sq.move .plain rfl rfl ?_
    refine Sq.move .plain rfl rfl ?_
    refine Sq.move .plain rfl rfl ?_
    refine Sq.move .plain rfl rfl ?_
    refine Sq.idxInts sl52 one3 (hr.ext E) .plain rfl rfl rfl .plain rfl rfl (by omega) (by omega) ?_
    refine Sq.rem .plain rfl rfl rfl (by have := hsi (by omega); omega) ?_
    obtain ⟨p9, hp10o⟩ := Own.at ho (i := i) (by omega) (by first | (simp only [List.length_map]; omega) | (simp; omega))
    refine Sq.atO sl52 hp10o .plain rfl rfl rfl ?_
    refine Sq.storeO one3 ho hp10o .plain rfl rfl rfl (fun w11 g12 ho13 => ?_)
    have hs14 := World.grownBy.size g12
    replace E := E.owned ho g12 (by omega)
    replace ho := ho13
    refine Sq.nil ?_
    refine Eq.next ?_
    refine Cq.region ?_
    refine Sq.move .plain rfl rfl ?_
    refine Sq.move .plain rfl rfl ?_
    refine Sq.move .plain rfl rfl ?_
    refine Sq.idxInts sl52 one3 (hr.ext E) .plain rfl rfl rfl .plain rfl rfl (by omega) (by omega) ?_
    refine Sq.quo .plain rfl rfl rfl (by have := hsi (by omega); omega) ?_
    refine Sq.assign .plain rfl rfl ?_
    refine Sq.nil ?_
    refine Eq.end ?_
    refine Eq.next ?_
    refine Cq.region ?_
    refine Sq.move .plain rfl rfl ?_
    refine Sq.sub .plain rfl rfl rfl (by omega) ?_
    refine Sq.assign .plain rfl rfl ?_
    refine Sq.nil ?_
    have e1 : (i + 1).toNat = i.toNat + 1 := toNat_succ (by omega)
    have e2 : (i - 1 + 1).toNat = i.toNat := by omega
    refine Eq.round _ _ ⟨i - 1, _, rfl, by omega, by rw [e2, hqv, e1, prod_node (by omega) hs], by rw [e2, ← decTo_step (q := q) (m := i.toNat) (by omega), List.map_set, ← e1, ← hqv]; exact ho, E, rfl⟩ (by omega) (.cons rfl (.cons rfl (.cons rfl (.cons rfl (.nil)))))
  · refine Sq.nil ?_
    refine Eq.next ?_
    refine Cq.els rfl ?_
    refine Cq.exit ?_
    refine Eq.past ?_
    refine Eq.past ?_
    refine Eq.hit ?_
    refine Eq.next ?_
    refine Cq.seq ?_
    refine Cq.region ?_
    refine Sq.move .plain rfl rfl ?_
    refine Sq.assign .plain rfl rfl ?_
    refine Sq.nil ?_
    refine Eq.next ?_
    refine Cq.ret ?_
    refine Eq.ret1 rfl rfl ?_
    have e3 : (i + 1).toNat = 0 := by omega
    rw [e3, decTo_zero] at ho
    exact ⟨ho, E⟩

set_option maxRecDepth 100000 in
theorem l4Encode_c (w0 : World) (ss st : List Int) (r u : Value) (hr : Ints w0 3 r ss) (hu : Ints w0 3 u st) (hs : SzOk ss) (hst : StOk ss st) (hl : st.length = ss.length) : Ret Try.prog 92 #[r, u] w0 (fun v w => v = .int .i64 (encTo ss st ss.length) ∧ Ext w0 w) := by
  have E := Ext.refl w0
  have hsl := hs.1
  refine Ret.of (args := [r, u]) Try.func92 rfl rfl rfl ?_
  rintro _ rfl
  show Cq _ _ _ _ [(0, r), (1, u)] _
  refine Cq.seq ?_
  refine Cq.region ?_
  refine Sq.assign .plain rfl rfl ?_
  refine Sq.nil ?_
  refine Eq.next ?_
  refine Cq.seq ?_
  refine Cq.region ?_
  refine Sq.assign .plain rfl rfl ?_
  refine Sq.nil ?_
  refine Eq.next ?_
  refine Cq.seq ?_
  refine Cq.seq ?_
  refine Cq.region ?_
  refine Sq.assign .plain rfl rfl ?_
  refine Sq.nil ?_
  refine Eq.next ?_
  refine Cq.block ?_
  refine Cq.loop (fun nn w ls => ∃ (k : Int), ls = [(0, r), (1, u), (5, Value.int .i64 (encTo ss st k.toNat)), (6, Value.int .i64 k)] ∧ (0 ≤ k ∧ k ≤ ss.length) ∧ Ext w0 w ∧ Ints w 3 r ss ∧ Ints w 3 u st ∧ nn = ((ss.length : Int) - k).toNat) _ _ ⟨0, rfl, by omega, E, hr, hu, rfl⟩ (.cons rfl (.cons rfl (.cons rfl (.cons rfl (.nil))))) ?_
  rintro nn wl1 ls ⟨k, rfl, hk, E, hr, hu, rfl⟩
  have hs1 := Below.size E
  refine Cq.seq ?_
  refine Cq.seq ?_
  refine Cq.region ?_
  refine Sq.move .plain rfl rfl ?_
  refine Sq.move .plain rfl rfl ?_
  refine Sq.lenInts hr .plain rfl und52 rfl ?_
  refine Sq.lss .plain rfl rfl rfl ?_
  refine Sq.part (fun c2 => ?_) (fun c2 => ?_)
  · refine Sq.nil ?_
    refine Eq.next ?_
    refine Cq.thn rfl ?_
    refine Cq.skip ?_
    refine Eq.next ?_
    refine Cq.seq ?_
    refine Cq.block ?_
    obtain ⟨phpA, hpA⟩ := Ints.at hr (i := k) (by omega) (by omega)
    obtain ⟨phpB, hpB⟩ := Ints.at hu (i := k) (by omega) (by omega)
    have heb := enc_bd hs hst (k := k.toNat) (by omega)
    have hsb := hst k.toNat (by omega)
    have hsb2 := hs.2 k.toNat (by omega)
    refine Cq.drawS 11 (fun w' => At w' 3 r k phpA (.int .i64 (ss.getD k.toNat 0)) ∧ At w' 3 u k phpB (.int .i64 (st.getD k.toNat 0))) mixed (⟨hpA, hpB⟩) (fun w3 e4 hS => ?_)
    clear hS
    have hs5 := Below.size e4
    replace E := E.trans e4
    replace hr := hr.ext e4
    replace hu := hu.ext e4
    replace hpA := hpA.ext e4
    replace hpB := hpB.ext e4
    have E_w3 := E
    have hr_w3 := hr
    have hu_w3 := hu
    have hpA_w3 := hpA
    have hpB_w3 := hpB
    refine Gq.st 0 rfl (by kernel_rfl) rfl .plain rfl (fun _ _ _ h => h) ⟨hpA, hpB⟩ (fun w' x => Still.move rfl) ?_
    refine Gq.st 1 rfl (by kernel_rfl) rfl .plain rfl (fun _ _ _ h => h) ⟨hpA, hpB⟩ (fun w' x => Still.move rfl) ?_
    refine Gq.st 2 rfl (by kernel_rfl) rfl .plain rfl (fun _ _ _ h => h) ⟨hpA, hpB⟩ (fun w' x => Still.move rfl) ?_
    refine Gq.st 3 rfl (by kernel_rfl) rfl .plain rfl (fun _ _ _ h => h) ⟨hpA, hpB⟩ (fun w' x => Still.at' sl52 hpA rfl rfl) ?_
    refine Gq.st 4 rfl (by kernel_rfl) rfl .plain rfl (fun _ _ _ h => h) ⟨hpA, hpB⟩ (fun w' x => Still.loadA one3 rfl (x.1).1) ?_
    refine Gq.st 5 rfl (by kernel_rfl) rfl .plain rfl (fun _ _ _ h => h) ⟨hpA, hpB⟩ (fun w' x => Still.mul rfl rfl (by omega)) ?_
    refine Gq.st 6 rfl (by kernel_rfl) rfl .plain rfl (fun _ _ _ h => h) ⟨hpA, hpB⟩ (fun w' x => Still.move rfl) ?_
    refine Gq.st 7 rfl (by kernel_rfl) rfl .plain rfl (fun _ _ _ h => h) ⟨hpA, hpB⟩ (fun w' x => Still.move rfl) ?_
    refine Gq.st 8 rfl (by kernel_rfl) rfl .plain rfl (fun _ _ _ h => h) ⟨hpA, hpB⟩ (fun w' x => Still.at' sl52 hpB rfl rfl) ?_
    refine Gq.st 9 rfl (by kernel_rfl) rfl .plain rfl (fun _ _ _ h => h) ⟨hpA, hpB⟩ (fun w' x => Still.loadA one3 rfl (x.2).1) ?_
    refine Gq.st 10 rfl (by kernel_rfl) rfl .plain rfl (fun _ _ _ h => h) ⟨hpA, hpB⟩ (fun w' x => Still.add rfl rfl (by omega)) ?_
    refine Gq.one 11 rfl (by kernel_rfl) ?_
    refine Sq.assign .plain rfl rfl ?_
    refine Sq.nil ?_
    refine Eq.goes (fun h => absurd h (by decide)) ?_
    refine Gq.done (by kernel_rfl) ?_
    refine Eq.end ?_
    refine Eq.next ?_
    refine Cq.region ?_
    refine Sq.move .plain rfl rfl ?_
    refine Sq.add .plain rfl rfl rfl (by omega) ?_
    refine Sq.assign .plain rfl rfl ?_
    refine Sq.nil ?_
    have e1 := toNat_succ hk.1
    rw [show encTo ss st k.toNat * ss.getD k.toNat 0 + st.getD k.toNat 0 = encTo ss st (k + 1).toNat by rw [e1]; rfl]
    refine Eq.round _ _ ⟨k + 1, rfl, by omega, E, hr, hu, rfl⟩ (by omega) (.cons rfl (.cons rfl (.cons rfl (.cons rfl (.nil)))))
  · refine Sq.nil ?_
    refine Eq.next ?_
    refine Cq.els rfl ?_
    refine Cq.exit ?_
    refine Eq.past ?_
    refine Eq.past ?_
    refine Eq.hit ?_
    refine Eq.next ?_
    refine Cq.seq ?_
    refine Cq.region ?_
    refine Sq.move .plain rfl rfl ?_
    refine Sq.assign .plain rfl rfl ?_
    refine Sq.nil ?_
    refine Eq.next ?_
    refine Cq.ret ?_
    refine Eq.ret1 rfl rfl ?_
    have e2 : k.toNat = ss.length := by omega
    exact ⟨by rw [e2], E⟩

set_option maxRecDepth 100000 in
theorem l4Choices_c (w0 : World) (aa : List A) (av sv : Value) (ss : List Int) (lt kd gl : Int) (hN : NetA w0 27 52 3 4 av aa) (hS : Ints w0 3 sv ss) (hok : NetOk aa) (i q x : Int) (hi : 0 ≤ i ∧ i < aa.length) (hq : 0 ≤ q ∧ q < ((aa.getD i.toNat zeroA).next.length : Int)) (hx : 0 ≤ x ∧ x < 6) : Ret Try.prog 108 #[Value.agg #[Value.slice none 0 0, av, sv, Value.int .i64 lt, Value.int .i64 kd, Value.int .i64 gl], Value.int .i64 i, Value.int .i64 q, Value.int .i64 x] w0 (fun v w => Own w w0.heap.size 3 v [Value.int .i64 (goA (aa.getD i.toNat zeroA) q x)] ∧ Ext w0 w) := by
  have E := Ext.refl w0
  obtain ⟨BN, rows, hW, hrl, hat⟩ := id hN
  have hlen := hok.1
  have hv := (net_at hok (k := i.toNat) (by omega)).2.1
  refine Ret.of (args := [Value.agg #[Value.slice none 0 0, av, sv, Value.int .i64 lt, Value.int .i64 kd, Value.int .i64 gl], Value.int .i64 i, Value.int .i64 q, Value.int .i64 x]) Try.func108 rfl rfl rfl ?_
  rintro _ rfl
  show Cq _ _ _ _ [(0, Value.agg #[Value.slice none 0 0, av, sv, Value.int .i64 lt, Value.int .i64 kd, Value.int .i64 gl]), (1, Value.int .i64 i), (2, Value.int .i64 q), (3, Value.int .i64 x)] _
  refine Cq.seq ?_
  refine Cq.region ?_
  refine Sq.box .plain rfl rfl (fun b1 w2 e3 hB4 hlo5 => ?_)
  have hd6 := Nat.le_trans (Below.size E) hlo5
  have hs7 := Below.size e3
  replace E := E.trans e3
  replace hW := hW.ext e3
  refine Sq.assign .plain rfl rfl ?_
  refine Sq.nil ?_
  refine Eq.next ?_
  refine Cq.seq ?_
  refine Cq.seq ?_
  refine Cq.region ?_
  refine Sq.move .plain rfl rfl ?_
  refine Sq.fieldAddr fld70_0 .plain rfl rfl ?_
  refine Sq.loadB one68 .plain rfl rfl hB4 rfl ?_
  refine Sq.len .plain rfl und68 rfl ?_
  refine Sq.geq .plain rfl rfl rfl ?_
  refine Sq.isT (by omega) ?_
  refine Sq.nil ?_
  refine Eq.next ?_
  refine Cq.thn rfl ?_
  refine Cq.seq ?_
  refine Cq.region ?_
  refine Sq.fieldAddr fld70_1 .plain rfl rfl ?_
  refine Sq.loadB one67 .plain rfl rfl hB4 rfl ?_
  refine Sq.move .plain rfl rfl ?_
  refine Sq.fieldAddr fld70_0 .plain rfl rfl ?_
  refine Sq.loadB one68 .plain rfl rfl hB4 rfl ?_
  refine Sq.len .plain rfl und68 rfl ?_
  refine Sq.sub .plain rfl rfl rfl (by omega) ?_
  rw [show i - ((0 : Nat) : Int) = i by omega]
  obtain ⟨nxq8, acq8, hrq8, hnxq8, hacq8⟩ := hat i.toNat (aa.getD i.toNat zeroA) (at_getD (by omega))
  obtain ⟨gq8, cq8, hvq8, hlq8⟩ := Wid.rowAt hW (i := i) (by omega) hrq8
  refine Sq.val .plain rfl rfl (Still.ixV slw67 hvq8 rfl rfl (by omega)) ?_
  refine Sq.val .plain rfl rfl (Still.loadAggW agg27 rfl rfl (fun j hj => Wid.cellR hvq8 hW (by omega) hrq8 hj)) ?_
  refine Sq.move .plain rfl rfl ?_
  refine Sq.move .plain rfl rfl ?_
  have hd12 := hB4.lt
  refine Sq.call fn53 .plain rfl rfl (l3Go_c _ (aa.getD i.toNat zeroA) _ _ (hnxq8.ext E) (hacq8.ext E) hv q x (by omega) (by omega)) ?_
  rintro _ w10 ⟨rfl, e11⟩
  have hs13 := Below.size E
  have hs14 := Below.size e11
  replace E := E.trans e11
  replace hW := hW.ext e11
  replace hB4 := hB4.ext e11
  refine Sq.lit sl52 rfl rfl .plain rfl rfl (one_cons rfl one_nil) (fun b15 w16 e17 hlo18 ho19 _ => ?_)
  replace ho19 := ho19 w10.heap.size (Nat.le_refl _)
  have hs21 := Below.size e17
  replace E := E.trans e17
  replace hW := hW.ext e17
  replace hB4 := hB4.ext e17
  refine Sq.assign .plain rfl rfl ?_
  refine Sq.nil ?_
  refine Eq.next ?_
  refine Cq.ret ?_
  refine Eq.pastRet ?_
  refine Eq.ret1 rfl rfl ?_
  exact ⟨Own.mono ho19 (by omega), E⟩

end Go.Proofs.Ytdkdpmmfebdeaaa
