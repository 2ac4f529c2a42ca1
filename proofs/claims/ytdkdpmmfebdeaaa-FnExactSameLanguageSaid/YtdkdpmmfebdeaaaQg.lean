/-
  Walks, printed by a program out of the translation and a contract for each function; each step is one law.
-/
import Derived.Test.YtdkdpmmfebdeaaaQf
import Derived.Test.YtdkdpmmfebdeaaaQc
import Derived.Test.YtdkdpmmfebdeaaaWg
set_option linter.unusedSimpArgs false
set_option linter.unusedVariables false
namespace Go.Proofs.Ytdkdpmmfebdeaaa
open Go.RowKit

set_option maxHeartbeats 1000000 in
set_option maxRecDepth 100000 in
theorem l4First_c (w0 : World) (aa : List A) (av sv : Value) (ss : List Int) (lt kd gl : Int) (hN : NetA w0 27 52 3 4 av aa) (hS : Ints w0 3 sv ss) (hok : NetOk aa) (hst : StOk (szs aa) ss) (hsl : ss.length = aa.length) (hk : KindOk kd aa) (hal : 0 ≤ lt ∧ lt ≤ 63) : Ret Try.prog 60 #[Value.agg #[Value.slice none 0 0, av, sv, Value.int .i64 lt, Value.int .i64 kd, Value.int .i64 gl]] w0 (fun v w => v = resW (firstOf (fN aa) (encTo (szs aa) ss (szs aa).length) (letters lt) (fun q => foundN kd gl aa (decL (szs aa) q))) ∧ Ext w0 w) := by
  have E := Ext.refl w0
  have hlen := hok.1
  have hzl := szs_length aa
  have htb := total_bd hok
  have hlet := letters_len6 lt
  have hso := szs_ok hok
  have hfN : ∀ q l, l ∈ (letters lt) → 0 ≤ fN aa q l ∧ fN aa q l < (((total aa) : Nat) : Int) := fun q l hl => fN_in hok q ⟨(mem_letters hl).1, (mem_letters hl).2.1⟩
  have hS0b : 0 ≤ (encTo (szs aa) ss (szs aa).length) ∧ (encTo (szs aa) ss (szs aa).length) < (((total aa) : Nat) : Int) := by have h := enc_lt hso hst (by omega); rw [htb.2.2]; exact h
  refine Ret.of (args := [Value.agg #[Value.slice none 0 0, av, sv, Value.int .i64 lt, Value.int .i64 kd, Value.int .i64 gl]]) Try.func60 rfl rfl rfl ?_
  rintro _ rfl
  show Cq _ _ _ _ [(0, Value.agg #[Value.slice none 0 0, av, sv, Value.int .i64 lt, Value.int .i64 kd, Value.int .i64 gl])] _
  refine Cq.seq ?_
  refine Cq.region ?_
  refine Sq.box .plain rfl rfl (fun b1 w2 e3 hB4 hlo5 => ?_)
  have hd6 := Nat.le_trans (Below.size E) hlo5
  have hs7 := Below.size e3
  replace E := E.trans e3
  refine Sq.assign .plain rfl rfl ?_
  refine Sq.assign .plain rfl rfl ?_
  refine Sq.nil ?_
  refine Eq.next ?_
  refine Cq.seq ?_
  refine Cq.region ?_
  refine Sq.loadAgg agg70 .plain rfl rfl hB4 rfl ?_
  have hd12 := hB4.lt
  refine Sq.call fn87 .plain rfl rfl (l4Sizes_c _ aa av sv ss lt kd gl (hN.ext E) (hS.ext E) (by omega)) ?_
  rintro v8 w9 ⟨ho11, e10⟩
  have hs13 := Below.size E
  have hs14 := Below.size e10
  replace E := E.trans e10
  replace hB4 := hB4.ext e10
  refine Sq.assign .plain rfl rfl ?_
  have fzS := Ext.refl w9
  have hs15 := Below.size E
  replace ho11 := Own.row ho11
  refine Sq.nil ?_
  refine Eq.next ?_
  refine Cq.seq ?_
  refine Cq.region ?_
  refine Sq.assign .plain rfl rfl ?_
  refine Sq.nil ?_
  refine Eq.next ?_
  refine Cq.seq ?_
  refine Cq.seq ?_
  refine Cq.region ?_
  refine Sq.assign .plain rfl rfl ?_
  refine Sq.nil ?_
  refine Eq.next ?_
  refine Cq.block ?_
  refine Cq.loop (fun nn w ls => ∃ (k : Int), ls = [(1, Value.pointer (some ⟨b1, 0, none⟩)), (4, v8), (5, Value.int .i64 ((prodTo (szs aa) k.toNat))), (6, Value.int .i64 k)] ∧ (0 ≤ k ∧ k ≤ (szs aa).length) ∧ Ext w0 w ∧ Ext w9 w ∧ Blk w b1 70 [Value.slice none 0 0, av, sv, Value.int .i64 lt, Value.int .i64 kd, Value.int .i64 gl] ∧ nn = (((szs aa).length : Int) - k).toNat) _ _ ⟨0, rfl, by omega, E, fzS, hB4, rfl⟩ (.cons rfl (.cons rfl (.cons rfl (.cons rfl (.nil))))) ?_
  rintro nn wl1 ls ⟨k, rfl, hk1, E, fzS, hB4, rfl⟩
  have hs16 := Below.size E
  have hs17 := Below.size fzS
  refine Cq.seq ?_
  refine Cq.seq ?_
  refine Cq.region ?_
  refine Sq.move .plain rfl rfl ?_
  refine Sq.move .plain rfl rfl ?_
  refine Sq.lenInts (ho11.ext fzS) .plain rfl und52 rfl ?_
  refine Sq.lss .plain rfl rfl rfl ?_
  refine Sq.part (fun c18 => ?_) (fun c18 => ?_)
  · refine Sq.nil ?_
    refine Eq.next ?_
    refine Cq.thn rfl ?_
    refine Cq.skip ?_
    refine Eq.next ?_
    refine Cq.seq ?_
    refine Cq.block ?_
    refine Cq.region ?_
    refine Sq.move .plain rfl rfl ?_
    refine Sq.move .plain rfl rfl ?_
    refine Sq.move .plain rfl rfl ?_
    refine Sq.idxInts sl52 one3 (ho11.ext fzS) .plain rfl rfl rfl .plain rfl rfl (by omega) (by omega) ?_
    refine Sq.mul .plain rfl rfl rfl (by have := prodTo_bd hso (k := k.toNat) (by omega); omega) ?_
    refine Sq.assign .plain rfl rfl ?_
    refine Sq.nil ?_
    refine Eq.end ?_
    refine Eq.next ?_
    refine Cq.region ?_
    refine Sq.move .plain rfl rfl ?_
    refine Sq.add .plain rfl rfl rfl (by omega) ?_
    refine Sq.assign .plain rfl rfl ?_
    refine Sq.nil ?_
    have e1 := toNat_succ hk1.1
    rw [show prodTo (szs aa) k.toNat * (szs aa).getD k.toNat 0 = prodTo (szs aa) (k + 1).toNat by rw [e1, prodTo_succ (by omega)]]
    refine Eq.round _ _ ⟨k + 1, rfl, by omega, E, fzS, hB4, rfl⟩ (by omega) (.cons rfl (.cons rfl (.cons rfl (.cons rfl (.nil)))))
  · refine Sq.nil ?_
    refine Eq.next ?_
    refine Cq.els rfl ?_
    refine Cq.exit ?_
    refine Eq.past ?_
    refine Eq.past ?_
    refine Eq.hit ?_
    refine Eq.next ?_
    refine Cq.seq ?_
    refine Cq.region ?_
    have htot : prodTo (szs aa) k.toNat = (((total aa) : Nat) : Int) := by rw [prodTo_all (by omega)]; exact htb.2.2.symm
    rw [htot]
    refine Sq.loadAgg agg70 .plain rfl rfl hB4 rfl ?_
    refine Sq.move .plain rfl rfl ?_
    refine Sq.move .plain rfl rfl ?_
    refine Sq.call fn88 .plain rfl rfl (l4Moves_c _ aa av sv ss lt kd gl (hN.ext E) (hS.ext E) _ _ (ho11.ext fzS) hok rfl hal) ?_
    rintro vM w19 ⟨hmv, e20⟩
    have hs21 := Below.size e20
    replace E := E.trans e20
    replace fzS := fzS.trans e20
    replace hB4 := hB4.ext e20
    have fzM := Ext.refl w19
    have hs22 := Below.size E
    have hs23 := Below.size fzS
    refine Sq.assign .plain rfl rfl ?_
    refine Sq.nil ?_
    refine Eq.next ?_
    refine Cq.seq ?_
    refine Cq.region ?_
    refine Sq.move .plain rfl rfl ?_
    refine Sq.make sl52 .plain rfl rfl rfl rfl (by omega) (fun b24 w25 e26 hlo27 hB28 => ?_)
    replace hB28 := hB28 w19.heap.size (Nat.le_refl _)
    have hs29 := Below.size e26
    replace E := E.trans e26
    replace fzS := fzS.trans e26
    replace hB4 := hB4.ext e26
    replace fzM := fzM.trans e26
    refine Sq.assign .plain rfl rfl ?_
    refine Sq.nil ?_
    refine Eq.next ?_
    refine Cq.seq ?_
    refine Cq.seq ?_
    refine Cq.region ?_
    refine Sq.assign .plain rfl rfl ?_
    refine Sq.nil ?_
    refine Eq.next ?_
    refine Cq.block ?_
    refine Cq.loop (fun nn w ls => ∃ (i : Int), ls = [(1, Value.pointer (some ⟨b1, 0, none⟩)), (4, v8), (5, Value.int .i64 ((((total aa) : Nat) : Int))), (7, vM), (8, Value.slice (some ⟨b24, 0, none⟩) ((((total aa) : Nat) : Int)).toNat ((((total aa) : Nat) : Int)).toNat), (9, Value.int .i64 i)] ∧ (0 ≤ i ∧ i ≤ (((total aa) : Nat) : Int)) ∧ Own w w19.heap.size 3 (Value.slice (some ⟨b24, 0, none⟩) ((((total aa) : Nat) : Int)).toNat ((((total aa) : Nat) : Int)).toNat) ((dsInit (fun q => foundN kd gl aa (decL (szs aa) q)) (total aa) i.toNat).map (Value.int .i64)) ∧ Ext w0 w ∧ Ext w9 w ∧ Ext w19 w ∧ Blk w b1 70 [Value.slice none 0 0, av, sv, Value.int .i64 lt, Value.int .i64 kd, Value.int .i64 gl] ∧ nn = ((((total aa) : Nat) : Int) - i).toNat) _ _ ⟨0, rfl, by omega, by rw [show (0 : Int).toNat = 0 from rfl, dsInit_zero, List.map_replicate]; exact hB28, E, fzS, fzM, hB4, rfl⟩ (.cons rfl (.cons rfl (.cons rfl (.cons rfl (.cons rfl (.cons rfl (.nil))))))) ?_
    rintro nn wl2 ls ⟨i, rfl, hi, ho, E, fzS, fzM, hB4, rfl⟩
    have hs30 := Below.size E
    have hs31 := Below.size fzS
    have hs32 := Below.size fzM
    have hil := dsInit_length (G := (fun q => foundN kd gl aa (decL (szs aa) q))) (n := (total aa)) i.toNat
    refine Cq.seq ?_
    refine Cq.seq ?_
    refine Cq.region ?_
    refine Sq.move .plain rfl rfl ?_
    refine Sq.move .plain rfl rfl ?_
    refine Sq.lss .plain rfl rfl rfl ?_
    refine Sq.part (fun c33 => ?_) (fun c33 => ?_)
    · refine Sq.nil ?_
      refine Eq.next ?_
      refine Cq.thn rfl ?_
      refine Cq.skip ?_
      refine Eq.next ?_
      refine Cq.seq ?_
      refine Cq.block ?_
      refine Cq.seq ?_
      refine Cq.region ?_
      refine Sq.move .plain rfl rfl ?_
      refine Sq.move .plain rfl rfl ?_
      obtain ⟨p34, hp35o⟩ := Own.at ho (i := i) (by omega) (by first | (simp only [List.length_map]; omega) | (simp; omega))
      refine Sq.atO sl52 hp35o .plain rfl rfl rfl ?_
      refine Sq.storeO one3 ho hp35o .plain rfl rfl rfl (fun w36 g37 ho38 => ?_)
      have hs39 := World.grownBy.size g37
      replace E := E.owned ho g37 (by omega)
      replace fzS := fzS.owned ho g37 (by omega)
      replace fzM := fzM.owned ho g37 (by omega)
      replace hB4 := hB4.owned ho g37 (by decide)
      replace ho := ho38
      refine Sq.nil ?_
      refine Eq.next ?_
      refine Cq.seq ?_
      obtain ⟨pM, rM, hpM, hrM⟩ := Read3.at hmv (i := i) (by omega) (by rw [movesN, List.length_map, List.length_range]; omega)
      replace hpM := hpM.ext fzM
      refine Cq.drawS 9 (fun w' => Blk w' b1 70 [Value.slice none 0 0, av, sv, Value.int .i64 lt, Value.int .i64 kd, Value.int .i64 gl] ∧ At w' 22 vM i pM rM) mixed (⟨hB4, hpM⟩) (fun w40 e41 hS => ?_)
      clear hS
      have hs42 := Below.size e41
      replace E := E.trans e41
      replace fzS := fzS.trans e41
      replace fzM := fzM.trans e41
      replace hB4 := hB4.ext e41
      replace ho := ho.ext e41
      replace hpM := hpM.ext e41
      have E_w40 := E
      have fzS_w40 := fzS
      have fzM_w40 := fzM
      have hB4_w40 := hB4
      have ho_w40 := ho
      have hpM_w40 := hpM
      refine Gq.st 0 rfl (by kernel_rfl) rfl .plain rfl (fun _ _ _ h => h) ⟨hB4, hpM⟩ (fun w' x => Still.loadAgg agg70 rfl x.1 rfl) ?_
      refine Gq.st 1 rfl (by kernel_rfl) rfl .plain rfl (fun _ _ _ h => h) ⟨hB4, hpM⟩ (fun w' x => Still.move rfl) ?_
      refine Gq.st 2 rfl (by kernel_rfl) rfl .plain rfl (fun _ _ _ h => h) ⟨hB4, hpM⟩ (fun w' x => Still.move rfl) ?_
      refine Gq.st 4 rfl (by kernel_rfl) rfl .plain rfl (fun _ _ _ h => h) ⟨hB4, hpM⟩ (fun w' x => Still.move rfl) ?_
      refine Gq.st 5 rfl (by kernel_rfl) rfl .plain rfl (fun _ _ _ h => h) ⟨hB4, hpM⟩ (fun w' x => Still.move rfl) ?_
      refine Gq.st 6 rfl (by kernel_rfl) rfl .plain rfl (fun _ _ _ h => h) ⟨hB4, hpM⟩ (fun w' x => Still.at' sl85 hpM rfl rfl) ?_
      refine Gq.st 7 rfl (by kernel_rfl) rfl .plain rfl (fun _ _ _ h => h) ⟨hB4, hpM⟩ (fun w' x => Still.loadA one22 rfl (x.2).1) ?_
      refine Gq.one 3 rfl (by kernel_rfl) ?_
      have hd47 := hB4.lt
      refine Sq.call fn90 .plain rfl rfl (l4Decode_c _ (szs aa) _ (ho11.ext fzS) i hso (by omega)) ?_
      rintro v43 w44 ⟨ho46, e45⟩
      have hs48 := Below.size E
      have hs49 := Below.size fzS
      have hs50 := Below.size fzM
      have hs51 := Below.size e45
      replace E := E.trans e45
      replace fzS := fzS.trans e45
      replace fzM := fzM.trans e45
      replace hB4 := hB4.ext e45
      replace ho := ho.ext e45
      replace hpM := hpM.ext e45
      refine Sq.nil ?_
      refine Eq.goes (fun _ => ⟨hB4, hpM⟩) ?_
      refine Gq.one 8 rfl (by kernel_rfl) ?_
      have hd55 := hB4.lt
      refine Sq.call fn89 .plain rfl rfl (l4Found_c _ aa av sv ss lt kd gl (hN.ext E) (hS.ext E) _ ((decL (szs aa) i)) (Own.row ho46) hok (decL_ok hso _) (by rw [decL_length, szs_length]) rM hk) ?_
      rintro _ w53 ⟨rfl, e54⟩
      have hs56 := Below.size E
      have hs57 := Below.size fzS
      have hs58 := Below.size fzM
      have hs59 := Below.size e54
      replace E := E.trans e54
      replace fzS := fzS.trans e54
      replace fzM := fzM.trans e54
      replace hB4 := hB4.ext e54
      replace ho := ho.ext e54
      replace hpM := hpM.ext e54
      replace ho46 := ho46.ext e54
      refine Sq.partB (fun hfo => ?_) (fun hfo => ?_)
      · refine Sq.nil ?_
        refine Eq.goes (fun _ => ⟨hB4, hpM⟩) ?_
        refine Gq.done (by kernel_rfl) ?_
        refine Eq.next ?_
        refine Cq.thn rfl ?_
        refine Cq.region ?_
        refine Sq.move .plain rfl rfl ?_
        refine Sq.move .plain rfl rfl ?_
        obtain ⟨p60, hp61o⟩ := Own.at ho (i := i) (by omega) (by first | (simp only [List.length_map]; omega) | (simp; omega))
        refine Sq.atO sl52 hp61o .plain rfl rfl rfl ?_
        refine Sq.storeO one3 ho hp61o .plain rfl rfl rfl (fun w62 g63 ho64 => ?_)
        have hs65 := World.grownBy.size g63
        replace E := E.owned ho g63 (by omega)
        replace fzS := fzS.owned ho g63 (by omega)
        replace fzM := fzM.owned ho g63 (by omega)
        replace hB4 := hB4.owned ho g63 (by decide)
        replace ho := ho64
        refine Sq.nil ?_
        refine Eq.end ?_
        refine Eq.next ?_
        refine Cq.region ?_
        refine Sq.move .plain rfl rfl ?_
        refine Sq.add .plain rfl rfl rfl (by omega) ?_
        refine Sq.assign .plain rfl rfl ?_
        refine Sq.nil ?_
        have e1 := toNat_succ hi.1
        refine Eq.round _ _ ⟨i + 1, rfl, by omega, by rw [e1, ← dsInit_T (v := i) (by omega) (Int.toNat_of_nonneg hi.1) hfo]; exact ho, E, fzS, fzM, hB4, rfl⟩ (by omega) (.cons rfl (.cons rfl (.cons rfl (.cons rfl (.cons rfl (.cons rfl (.nil)))))))
      · refine Sq.nil ?_
        refine Eq.goes (fun _ => ⟨hB4, hpM⟩) ?_
        refine Gq.done (by kernel_rfl) ?_
        refine Eq.next ?_
        refine Cq.els rfl ?_
        refine Cq.skip ?_
        refine Eq.end ?_
        refine Eq.next ?_
        refine Cq.region ?_
        refine Sq.move .plain rfl rfl ?_
        refine Sq.add .plain rfl rfl rfl (by omega) ?_
        refine Sq.assign .plain rfl rfl ?_
        refine Sq.nil ?_
        have e1 := toNat_succ hi.1
        refine Eq.round _ _ ⟨i + 1, rfl, by omega, by rw [e1, ← dsInit_F (v := i) (by omega) (Int.toNat_of_nonneg hi.1) hfo]; exact ho, E, fzS, fzM, hB4, rfl⟩ (by omega) (.cons rfl (.cons rfl (.cons rfl (.cons rfl (.cons rfl (.cons rfl (.nil)))))))
    · refine Sq.nil ?_
      refine Eq.next ?_
      refine Cq.els rfl ?_
      refine Cq.exit ?_
      refine Eq.past ?_
      refine Eq.past ?_
      refine Eq.hit ?_
      refine Eq.next ?_
      refine Cq.seq ?_
      refine Cq.region ?_
      rw [dsInit_all (f := (fN aa)) (L := (letters lt)) (by omega)] at ho
      refine Sq.move .plain rfl rfl ?_
      refine Sq.move .plain rfl rfl ?_
      refine Sq.call fn91 .plain rfl rfl (l4Dist_c _ _ _ _ _ (fN aa) (letters lt) (fun q => foundN kd gl aa (decL (szs aa) q)) (total aa) fzM hmv (by omega) ho hfN (by omega) (by omega)) ?_
      rintro _ w66 ⟨rfl, ⟨dd, hdd, ho68, hstab⟩, g67⟩
      have hs69 := World.grownBy.size g67
      replace E := E.owned ho g67 (by omega)
      replace fzS := fzS.owned ho g67 (by omega)
      replace fzM := fzM.owned ho g67 (by omega)
      replace hB4 := hB4.owned ho g67 (by decide)
      replace ho := ho68
      refine Sq.nil ?_
      refine Eq.next ?_
      refine Cq.seq ?_
      refine Cq.region ?_
      refine Sq.move .plain rfl rfl ?_
      refine Sq.fieldAddr fld70_2 .plain rfl rfl ?_
      refine Sq.loadB one52 .plain rfl rfl hB4 rfl ?_
      have hd73 := hB4.lt
      refine Sq.call fn92 .plain rfl rfl (l4Encode_c _ (szs aa) ss _ _ (ho11.ext fzS) (hS.ext E) hso hst (by omega)) ?_
      rintro _ w71 ⟨rfl, e72⟩
      have hs74 := Below.size E
      have hs75 := Below.size fzS
      have hs76 := Below.size fzM
      have hs77 := Below.size e72
      replace E := E.trans e72
      replace fzS := fzS.trans e72
      replace fzM := fzM.trans e72
      replace hB4 := hB4.ext e72
      replace ho := ho.ext e72
      refine Sq.lit sl52 rfl rfl .plain rfl rfl (one_cons rfl one_nil) (fun b78 w79 e80 hlo81 ho82 _ => ?_)
      replace ho82 := ho82 w71.heap.size (Nat.le_refl _)
      have hs84 := Below.size e80
      replace E := E.trans e80
      replace fzS := fzS.trans e80
      replace fzM := fzM.trans e80
      replace hB4 := hB4.ext e80
      replace ho := ho.ext e80
      refine Sq.assign .plain rfl rfl ?_
      refine Sq.nil ?_
      refine Eq.next ?_
      refine Cq.seq ?_
      refine Cq.region ?_
      refine Sq.fieldAddr fld70_3 .plain rfl rfl ?_
      refine Sq.loadB one3 .plain rfl rfl hB4 rfl ?_
      have hd89 := hB4.lt
      refine Sq.call fn52 .plain rfl rfl (l1Letters_c lt (by omega) _) ?_
      rintro v85 w86 ⟨hl88, e87⟩
      have hs90 := Below.size E
      have hs91 := Below.size fzS
      have hs92 := Below.size fzM
      have hs93 := Below.size e87
      replace E := E.trans e87
      replace fzS := fzS.trans e87
      replace fzM := fzM.trans e87
      replace hB4 := hB4.ext e87
      replace ho := ho.ext e87
      replace ho82 := ho82.ext e87
      refine Sq.assign .plain rfl rfl ?_
      refine Sq.nil ?_
      refine Eq.next ?_
      refine Cq.seq ?_
      refine Cq.region ?_
      refine Sq.assign .plain rfl rfl ?_
      refine Sq.nil ?_
      refine Eq.next ?_
      refine Cq.seq ?_
      refine Cq.region ?_
      refine Sq.move .plain rfl rfl ?_
      refine Sq.move .plain rfl rfl ?_
      replace ho82 : Own _ _ _ _ (([(encTo (szs aa) ss (szs aa).length)] : List Int).map (Value.int .i64)) := ho82
      refine Sq.idxInts sl52 one3 (Own.row ho82) .plain rfl rfl rfl .plain rfl rfl (by omega) (by simp only [List.length_singleton]; omega) ?_
      rw [show ([(encTo (szs aa) ss (szs aa).length)] : List Int).getD (0 : Int).toNat 0 = (encTo (szs aa) ss (szs aa).length) from rfl]
      have hdl := dsOf_length (f := (fN aa)) (L := (letters lt)) (G := (fun q => foundN kd gl aa (decL (szs aa) q))) (n := (total aa)) dd
      refine Sq.idxInts sl52 one3 (Own.row ho) .plain rfl rfl rfl .plain rfl rfl (by omega) (by omega) ?_
      rw [dsOf_get hS0b]
      refine Sq.assign .plain rfl rfl ?_
      refine Sq.nil ?_
      refine Eq.next ?_
      refine Cq.seq ?_
      refine Cq.block ?_
      have hdle := disTo_le (f := (fN aa)) (L := (letters lt)) (G := (fun q => foundN kd gl aa (decL (szs aa) q))) (d := dd) (q := (encTo (szs aa) ss (szs aa).length))
      refine Cq.loop (fun nn w ls => ∃ (u : List Int), ∃ (q : Int), ∃ (dI : Int), ∃ (av2 : Value), ls = [(7, vM), (8, Value.slice (some ⟨b24, 0, none⟩) ((((total aa) : Nat) : Int)).toNat ((((total aa) : Nat) : Int)).toNat), (10, av2), (11, v85), (12, Value.string (txt u)), (13, Value.int .i64 dI)] ∧ (0 ≤ q ∧ q < (((total aa) : Nat) : Int)) ∧ dI = (disTo (fN aa) (letters lt) (fun q => foundN kd gl aa (decL (szs aa) q)) dd) q ∧ (0 ≤ ((disTo (fN aa) (letters lt) (fun q => foundN kd gl aa (decL (szs aa) q)) dd) (encTo (szs aa) ss (szs aa).length)) → 0 ≤ dI ∧ gre (fN aa) (letters lt) (disTo (fN aa) (letters lt) (fun q => foundN kd gl aa (decL (szs aa) q)) dd) ((disTo (fN aa) (letters lt) (fun q => foundN kd gl aa (decL (szs aa) q)) dd) (encTo (szs aa) ss (szs aa).length)).toNat (encTo (szs aa) ss (szs aa).length) = u ++ gre (fN aa) (letters lt) (disTo (fN aa) (letters lt) (fun q => foundN kd gl aa (decL (szs aa) q)) dd) dI.toNat q) ∧ (((disTo (fN aa) (letters lt) (fun q => foundN kd gl aa (decL (szs aa) q)) dd) (encTo (szs aa) ss (szs aa).length)) < 0 → dI < 0 ∧ u = []) ∧ ((u.length : Int) + dI ≤ 200) ∧ Ints w 3 av2 [q] ∧ Ext w0 w ∧ Ext w9 w ∧ Ext w19 w ∧ Own w w19.heap.size 3 (Value.slice (some ⟨b24, 0, none⟩) ((((total aa) : Nat) : Int)).toNat ((((total aa) : Nat) : Int)).toNat) ((dsOf (fN aa) (letters lt) (fun q => foundN kd gl aa (decL (szs aa) q)) (total aa) dd).map (Value.int .i64)) ∧ Own w w79.heap.size 3 v85 ((letters lt).map (Value.int .i64)) ∧ nn = dI.toNat) _ _ ⟨[], (encTo (szs aa) ss (szs aa).length), _, _, rfl, hS0b, rfl, fun h => ⟨h, rfl⟩, fun h => ⟨h, rfl⟩, by show ((0 : Nat) : Int) + _ ≤ 200; omega, (Own.row ho82), E, fzS, fzM, ho, hl88, rfl⟩ (.cons rfl (.cons rfl (.cons rfl (.cons rfl (.cons rfl (.cons rfl (.nil))))))) ?_
      rintro nn wl3 ls ⟨u, q, dI, av2, rfl, hq, hdq, hpos, hneg, hsz, hav, E, fzS, fzM, ho, hl88, rfl⟩
      have hs94 := Below.size E
      have hs95 := Below.size fzS
      have hs96 := Below.size fzM
      refine Cq.seq ?_
      refine Cq.seq ?_
      refine Cq.region ?_
      refine Sq.move .plain rfl rfl ?_
      refine Sq.gtr .plain rfl rfl rfl ?_
      refine Sq.part (fun c97 => ?_) (fun c97 => ?_)
      · refine Sq.nil ?_
        refine Eq.next ?_
        refine Cq.thn rfl ?_
        refine Cq.skip ?_
        refine Eq.next ?_
        refine Cq.seq ?_
        refine Cq.block ?_
        refine Cq.seq ?_
        refine Cq.region ?_
        refine Sq.assign .plain rfl rfl ?_
        refine Sq.nil ?_
        refine Eq.next ?_
        refine Cq.seq ?_
        refine Cq.region ?_
        have hL0 : 0 < (letters lt).length := next_lt (k := 0) hdq.symm (by omega) (fun j hj => absurd hj (Nat.not_lt_zero _))
        refine Sq.move .plain rfl rfl ?_
        refine Sq.move .plain rfl rfl ?_
        refine Sq.move .plain rfl rfl ?_
        refine Sq.move .plain rfl rfl ?_
        refine Sq.move .plain rfl rfl ?_
        refine Sq.sub .plain rfl rfl rfl (by omega) ?_
        have hkk : 0 ≤ (0 : Int) ∧ (0 : Int).toNat < (letters lt).length := by omega
        have hfx := hfN q ((letters lt).getD (0 : Int).toNat 0) (getD_mem (by omega))
        refine Sq.call fn93 .plain rfl rfl (l4Closer_c _ _ _ _ (movesN aa (letters lt)) (dsOf (fN aa) (letters lt) (fun q => foundN kd gl aa (decL (szs aa) q)) (total aa) dd) q (0 : Int) (dI - 1) (fN aa q ((letters lt).getD (0 : Int).toNat 0)) (hmv.ext fzM) (Own.row ho) hav (by rw [movesN, List.length_map, List.length_range]; exact hq) (by rw [moves_at hq, List.length_map]; omega) (by rw [moves_at hq]; exact row_get (by omega)) (by rw [dsOf_length]; exact hfx)) ?_
        rintro v100 w98 ⟨hnv101, e99⟩
        rw [dsOf_get hfx] at hnv101
        have hs102 := Below.size e99
        replace E := E.trans e99
        replace fzS := fzS.trans e99
        replace fzM := fzM.trans e99
        replace ho := ho.ext e99
        replace hl88 := hl88.ext e99
        replace hav := hav.ext e99
        have hs103 := Below.size E
        have hs104 := Below.size fzS
        have hs105 := Below.size fzM
        refine Sq.assign .plain rfl rfl ?_
        refine Sq.nil ?_
        refine Eq.next ?_
        refine Cq.seq ?_
        refine Cq.block ?_
        refine Cq.loop (fun nn w ls => ∃ (k : Int), ∃ (nv : Value), ls = [(7, vM), (8, Value.slice (some ⟨b24, 0, none⟩) ((((total aa) : Nat) : Int)).toNat ((((total aa) : Nat) : Int)).toNat), (10, av2), (11, v85), (12, Value.string (txt u)), (13, Value.int .i64 dI), (14, Value.int .i64 k), (15, nv)] ∧ (0 ≤ k ∧ k < ((letters lt).length : Int)) ∧ (∀ j : Nat, j < k.toNat → ¬ (disTo (fN aa) (letters lt) (fun q => foundN kd gl aa (decL (szs aa) q)) dd) (fN aa q ((letters lt).getD j 0)) = dI - 1) ∧ Ints w 3 nv (if (disTo (fN aa) (letters lt) (fun q => foundN kd gl aa (decL (szs aa) q)) dd) (fN aa q ((letters lt).getD k.toNat 0)) = dI - 1 then [(fN aa q ((letters lt).getD k.toNat 0))] else []) ∧ Ext w0 w ∧ Ext w9 w ∧ Ext w19 w ∧ Own w w19.heap.size 3 (Value.slice (some ⟨b24, 0, none⟩) ((((total aa) : Nat) : Int)).toNat ((((total aa) : Nat) : Int)).toNat) ((dsOf (fN aa) (letters lt) (fun q => foundN kd gl aa (decL (szs aa) q)) (total aa) dd).map (Value.int .i64)) ∧ Ints w 3 av2 [q] ∧ Own w w79.heap.size 3 v85 ((letters lt).map (Value.int .i64)) ∧ nn = (((letters lt).length : Int) - k).toNat) _ _ ⟨0, _, rfl, by omega, fun j hj => absurd hj (Nat.not_lt_zero _), (Own.row hnv101), E, fzS, fzM, ho, hav, hl88, rfl⟩ (.cons rfl (.cons rfl (.cons rfl (.cons rfl (.cons rfl (.cons rfl (.cons rfl (.cons rfl (.nil))))))))) ?_
        rintro nn wl4 ls ⟨k, nv, rfl, hk4, hno, hnv, E, fzS, fzM, ho, hav, hl88, rfl⟩
        have hs106 := Below.size E
        have hs107 := Below.size fzS
        have hs108 := Below.size fzM
        refine Cq.seq ?_
        refine Cq.seq ?_
        refine Cq.region ?_
        refine Sq.move .plain rfl rfl ?_
        refine Sq.lenInts hnv .plain rfl und52 rfl ?_
        refine Sq.eql .plain rfl rfl rfl ?_
        refine Sq.part (fun hem => ?_) (fun hem => ?_)
        · refine Sq.nil ?_
          refine Eq.next ?_
          refine Cq.thn rfl ?_
          refine Cq.skip ?_
          refine Eq.next ?_
          refine Cq.block ?_
          refine Cq.seq ?_
          refine Cq.region ?_
          have hne : ¬ (disTo (fN aa) (letters lt) (fun q => foundN kd gl aa (decL (szs aa) q)) dd) (fN aa q ((letters lt).getD k.toNat 0)) = dI - 1 := fun h => by rw [if_pos h] at hem; exact absurd hem (by simp)
          have hno' : ∀ j : Nat, j < k.toNat + 1 → ¬ (disTo (fN aa) (letters lt) (fun q => foundN kd gl aa (decL (szs aa) q)) dd) (fN aa q ((letters lt).getD j 0)) = dI - 1 := fun j hj => (Nat.lt_or_ge j k.toNat).elim (hno j) (fun h => (show k.toNat = j by omega) ▸ hne)
          have hkl : k.toNat + 1 < (letters lt).length := next_lt hdq.symm (by omega) hno'
          refine Sq.move .plain rfl rfl ?_
          refine Sq.add .plain rfl rfl rfl (by omega) ?_
          refine Sq.assign .plain rfl rfl ?_
          refine Sq.nil ?_
          refine Eq.next ?_
          refine Cq.region ?_
          refine Sq.move .plain rfl rfl ?_
          refine Sq.move .plain rfl rfl ?_
          refine Sq.move .plain rfl rfl ?_
          refine Sq.move .plain rfl rfl ?_
          refine Sq.move .plain rfl rfl ?_
          refine Sq.sub .plain rfl rfl rfl (by omega) ?_
          have hkk : 0 ≤ (k + 1) ∧ (k + 1).toNat < (letters lt).length := by omega
          have hfx := hfN q ((letters lt).getD (k + 1).toNat 0) (getD_mem (by omega))
          refine Sq.call fn93 .plain rfl rfl (l4Closer_c _ _ _ _ (movesN aa (letters lt)) (dsOf (fN aa) (letters lt) (fun q => foundN kd gl aa (decL (szs aa) q)) (total aa) dd) q (k + 1) (dI - 1) (fN aa q ((letters lt).getD (k + 1).toNat 0)) (hmv.ext fzM) (Own.row ho) hav (by rw [movesN, List.length_map, List.length_range]; exact hq) (by rw [moves_at hq, List.length_map]; omega) (by rw [moves_at hq]; exact row_get (by omega)) (by rw [dsOf_length]; exact hfx)) ?_
          rintro v111 w109 ⟨hnv112, e110⟩
          rw [dsOf_get hfx] at hnv112
          have hs113 := Below.size e110
          replace E := E.trans e110
          replace fzS := fzS.trans e110
          replace fzM := fzM.trans e110
          replace ho := ho.ext e110
          replace hav := hav.ext e110
          replace hl88 := hl88.ext e110
          replace hnv := hnv.ext e110
          have hs114 := Below.size E
          have hs115 := Below.size fzS
          have hs116 := Below.size fzM
          refine Sq.assign .plain rfl rfl ?_
          refine Sq.nil ?_
          refine Eq.end ?_
          have e4 := toNat_succ hk4.1
          refine Eq.round _ _ ⟨k + 1, _, rfl, by omega, by rw [e4]; exact hno', (Own.row hnv112), E, fzS, fzM, ho, hav, hl88, rfl⟩ (by omega) (.cons rfl (.cons rfl (.cons rfl (.cons rfl (.cons rfl (.cons rfl (.cons rfl (.cons rfl (.nil)))))))))
        · refine Sq.nil ?_
          refine Eq.next ?_
          refine Cq.els rfl ?_
          refine Cq.exit ?_
          refine Eq.past ?_
          refine Eq.past ?_
          refine Eq.hit ?_
          refine Eq.next ?_
          refine Cq.seq ?_
          refine Cq.region ?_
          have hyes : (disTo (fN aa) (letters lt) (fun q => foundN kd gl aa (decL (szs aa) q)) dd) (fN aa q ((letters lt).getD k.toNat 0)) = dI - 1 := Classical.byContradiction fun h => hem (by rw [if_neg h]; rfl)
          have hlx := letters_at lt (k := k.toNat) (by omega)
          rw [if_pos hyes] at hnv
          refine Sq.move .plain rfl rfl ?_
          refine Sq.assign .plain rfl rfl ?_
          refine Sq.nil ?_
          refine Eq.next ?_
          refine Cq.region ?_
          refine Sq.move .plain rfl rfl ?_
          refine Sq.move .plain rfl rfl ?_
          refine Sq.move .plain rfl rfl ?_
          refine Sq.idxInts sl52 one3 (Own.row hl88) .plain rfl rfl rfl .plain rfl rfl (by omega) (by omega) ?_
          refine Sq.call fn94 .plain rfl rfl (l1Text_c ((letters lt).getD k.toNat 0) (by omega) _) ?_
          rintro _ w118 ⟨rfl, e119⟩
          have hs120 := Below.size E
          have hs121 := Below.size fzS
          have hs122 := Below.size fzM
          have hs123 := Below.size e119
          replace E := E.trans e119
          replace fzS := fzS.trans e119
          replace fzM := fzM.trans e119
          replace ho := ho.ext e119
          replace hav := hav.ext e119
          replace hl88 := hl88.ext e119
          replace hnv := hnv.ext e119
          refine Sq.cat .plain rfl rfl rfl (by rw [txt_size, chr_size]; omega) ?_
          refine Sq.assign .plain rfl rfl ?_
          refine Sq.nil ?_
          refine Eq.end ?_
          refine Eq.next ?_
          refine Cq.region ?_
          refine Sq.move .plain rfl rfl ?_
          refine Sq.sub .plain rfl rfl rfl (by omega) ?_
          refine Sq.assign .plain rfl rfl ?_
          refine Sq.nil ?_
          rw [← txt_snoc]
          have gstep := gre_next (f := (fN aa)) (L := (letters lt)) (dis := (disTo (fN aa) (letters lt) (fun q => foundN kd gl aa (decL (szs aa) q)) dd)) (m := (dI - 1).toNat) (k := k.toNat) (q := q) (by omega) (fun j hj h => hno j hj (by omega)) (by omega)
          rw [show (dI - 1).toNat + 1 = dI.toNat by omega] at gstep
          refine Eq.round _ _ ⟨u ++ [((letters lt).getD k.toNat 0)], (fN aa q ((letters lt).getD k.toNat 0)), _, _, rfl, hfN _ _ (getD_mem (by omega)), hyes.symm, fun h => ⟨by omega, by rw [(hpos h).2, gstep, List.append_assoc]; rfl⟩, fun h => absurd (hneg h).1 (by omega), by rw [List.length_append]; simp only [List.length_singleton]; omega, hnv, E, fzS, fzM, ho, hl88, rfl⟩ (by omega) (.cons rfl (.cons rfl (.cons rfl (.cons rfl (.cons rfl (.cons rfl (.nil)))))))
      · refine Sq.nil ?_
        refine Eq.next ?_
        refine Cq.els rfl ?_
        refine Cq.exit ?_
        refine Eq.past ?_
        refine Eq.past ?_
        refine Eq.hit ?_
        refine Eq.next ?_
        refine Cq.seq ?_
        refine Cq.region ?_
        refine Sq.move .plain rfl rfl ?_
        refine Sq.move .plain rfl rfl ?_
        refine Sq.eql .plain rfl rfl rfl ?_
        refine Sq.assign .plain rfl rfl ?_
        refine Sq.assign .plain rfl rfl ?_
        refine Sq.nil ?_
        refine Eq.next ?_
        refine Cq.ret ?_
        refine Eq.ret2 rfl rfl rfl ?_
        have hfst := first_gre (f := (fN aa)) (L := (letters lt)) (G := (fun q => foundN kd gl aa (decL (szs aa) q))) (s := (encTo (szs aa) ss (szs aa).length)) (letters_sorted lt) (Nat.le_trans (ord_range hfN hS0b) (by omega)) (P := fun q => 0 ≤ q ∧ q < (((total aa) : Nat) : Int)) (fun q _ l hl => hfN q l hl) hS0b hstab
        by_cases h0 : 0 ≤ ((disTo (fN aa) (letters lt) (fun q => foundN kd gl aa (decL (szs aa) q)) dd) (encTo (szs aa) ss (szs aa).length))
        · obtain ⟨h1, h2⟩ := hpos h0
          have h3 : dI = 0 := by omega
          rw [if_pos h0] at hfst
          rw [h3] at h2
          have h4 : gre (fN aa) (letters lt) (disTo (fN aa) (letters lt) (fun q => foundN kd gl aa (decL (szs aa) q)) dd) ((disTo (fN aa) (letters lt) (fun q => foundN kd gl aa (decL (szs aa) q)) dd) (encTo (szs aa) ss (szs aa).length)).toNat (encTo (szs aa) ss (szs aa).length) = u := by rw [h2]; exact List.append_nil u
          exact ⟨by rw [hfst, h4, decide_eq_true h3]; rfl, E⟩
        · rw [if_neg h0] at hfst
          obtain ⟨h1, h2⟩ := hneg (by omega)
          subst h2
          exact ⟨by rw [hfst, decide_eq_false (by omega)]; rfl, E⟩

end Go.Proofs.Ytdkdpmmfebdeaaa
