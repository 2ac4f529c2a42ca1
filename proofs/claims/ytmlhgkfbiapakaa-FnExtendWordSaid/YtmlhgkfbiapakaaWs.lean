/-
  Walks, printed by a program out of the translation and a contract for each function; each step is one law.
-/
import Derived.Test.YtmlhgkfbiapakaaWc
set_option linter.unusedSimpArgs false
set_option linter.unusedVariables false
namespace Go.Proofs.Ytmlhgkfbiapakaa
open Go.RowKit

set_option maxRecDepth 100000 in
theorem safety_c (w0 : World) (a : A) (nx ac : Value) (hnx : Rows w0 47 3 nx a.next) (hac : Bools w0 4 ac a.acc) : Ret Try.prog 16 #[Value.agg #[Value.int .i64 a.al, nx, ac]] w0 (fun v w => (∃ u, v = .tuple #[u, .bool (validA a)] ∧ OwnA w w0.heap.size u (if validA a then safe a else zeroA)) ∧ Ext w0 w) := by
  have E := Ext.refl w0
  refine Ret.of (args := [Value.agg #[Value.int .i64 a.al, nx, ac]]) Try.func16 rfl rfl rfl ?_
  rintro _ rfl
  show Cq _ _ _ _ [(0, Value.agg #[Value.int .i64 a.al, nx, ac])] _
  refine Cq.seq ?_
  refine Cq.region ?_
  refine Sq.box .plain rfl rfl (fun b1 w2 e3 hB4 hlo5 => ?_)
  have hd6 := Nat.le_trans (Below.size E) hlo5
  have hs7 := Below.size e3
  replace E := E.trans e3
  refine Sq.alloc zero26 .plain rfl (fun b8 w9 e10 hB11 hlo12 => ?_)
  have hd13 := Nat.le_trans (Below.size E) hlo12
  have hd14 := Nat.lt_of_lt_of_le hB4.lt hlo12
  have hs15 := Below.size e10
  replace E := E.trans e10
  replace hB4 := hB4.ext e10
  refine Sq.assign .plain rfl rfl ?_
  refine Sq.nil ?_
  refine Eq.next ?_
  refine Cq.seq ?_
  refine Cq.seq ?_
  refine Cq.region ?_
  refine Sq.loadAgg agg26 .plain rfl rfl hB4 rfl ?_
  have hd19 := hB4.lt
  have hd20 := hB11.lt
  refine Sq.call fn19 .plain rfl rfl (valid_c _ a _ _ (hnx.ext E) (hac.ext E)) ?_
  rintro _ w17 ⟨rfl, e18⟩
  have hs21 := Below.size E
  have hs22 := Below.size e18
  replace E := E.trans e18
  replace hB4 := hB4.ext e18
  replace hB11 := hB11.ext e18
  refine Sq.partB (fun hv => ?_) (fun hv => ?_)
  · refine Sq.notT .plain rfl rfl ?_
    refine Sq.nil ?_
    refine Eq.next ?_
    refine Cq.els rfl ?_
    refine Cq.skip ?_
    refine Eq.next ?_
    refine Cq.seq ?_
    refine Cq.region ?_
    refine Sq.loadAgg agg26 .plain rfl rfl hB4 rfl ?_
    have hd30 := hB4.lt
    have hd31 := hB11.lt
    refine Sq.call fn43 .plain rfl rfl (copyA_c _ a _ _ (hnx.ext E) (hac.ext E) (fit_of_valid hv)) ?_
    rintro _ w24 ⟨⟨nx26, ac27, rfl, hn28, ha29⟩, e25⟩
    have hs32 := Below.size E
    have hs33 := Below.size e25
    replace E := E.trans e25
    replace hB4 := hB4.ext e25
    replace hB11 := hB11.ext e25
    refine Sq.alloc zero26 .plain rfl (fun b34 w35 e36 hB37 hlo38 => ?_)
    have hd39 := Nat.le_trans (Below.size E) hlo38
    have hd40 := Nat.lt_of_lt_of_le hB4.lt hlo38
    have hd41 := Nat.lt_of_lt_of_le hB11.lt hlo38
    have hs42 := Below.size e36
    replace E := E.trans e36
    replace hB4 := hB4.ext e36
    replace hB11 := hB11.ext e36
    replace hn28 := hn28.ext e36
    replace ha29 := ha29.ext e36
    refine Sq.storeAgg agg26 .plain rfl rfl (one_cons rfl (one_cons (Rows.one (OwnRows.rows hn28)) (one_cons (Row.one (Own.row ha29)) one_nil))) hB37 rfl rfl (fun w43 g44 hB45 => ?_)
    have hs46 := World.grownBy.size g44
    replace E := E.grown g44 (fun k hk => by injection hk with hk; subst hk; omega)
    replace hB4 := hB4.grown g44 (by intro h; injection h with h; omega)
    replace hB11 := hB11.grown g44 (by intro h; injection h with h; omega)
    replace hn28 := hn28.stored g44 hB37 (by decide) (by decide)
    replace ha29 := ha29.stored g44 hB37 (by decide)
    replace hB37 := hB45
    refine Sq.nil ?_
    refine Eq.next ?_
    refine Cq.seq ?_
    refine Cq.seq ?_
    refine Cq.region ?_
    refine Sq.fieldAddr fld26_1 .plain rfl rfl ?_
    refine Sq.loadB one23 .plain rfl rfl hB37 rfl ?_
    refine Sq.lenRows (OwnRows.rows hn28) .plain rfl und23 rfl ?_
    refine Sq.move .plain rfl rfl ?_
    refine Sq.nil ?_
    refine Eq.next ?_
    refine Cq.block ?_
    have hvs := validA_spec.1 hv
    have hv1 := hvs.2.1
    have hv2 := hvs.2.2.1
    refine Cq.loop (fun nn w ls => ∃ (i : Int), ∃ (xss : List (List Int)), ls = [(1, Value.pointer (some ⟨b1, 0, none⟩)), (2, Value.pointer (some ⟨b8, 0, none⟩)), (4, Value.pointer (some ⟨b34, 0, none⟩)), (15, nx26), (16, Value.int .i64 (List.length a.next : Int)), (17, Value.int .i64 i)] ∧ (0 ≤ i ∧ i ≤ a.next.length) ∧ OwnRows w w0.heap.size w.heap.size 47 3 nx26 xss ∧ SafeAt a i.toNat 0 xss ∧ Ext w0 w ∧ Blk w b1 26 [Value.int .i64 a.al, nx, ac] ∧ Blk w b8 26 [Value.int .i64 0, Value.slice none 0 0, Value.slice none 0 0] ∧ Blk w b34 26 [Value.int .i64 a.al, nx26, ac27] ∧ Own w w17.heap.size 4 ac27 (a.acc.map Value.bool) ∧ nn = ((a.next.length : Int) - i).toNat) _ _ ⟨0, _, rfl, by omega, OwnRows.mono (OwnRows.now hn28) (by omega), SafeAt.zero a, E, hB4, hB11, hB37, ha29, rfl⟩ (.cons rfl (.cons rfl (.cons rfl (.cons rfl (.cons rfl (.cons rfl (.nil))))))) ?_
    rintro nn wl1 ls ⟨i, xss, rfl, hi, hn28, hsf, E, hB4, hB11, hB37, ha29, rfl⟩
    have hs47 := Below.size E
    have hxl := hsf.1
    have hr6 := valid_row6 hv (k := i.toNat)
    refine Cq.seq ?_
    refine Cq.region ?_
    refine Sq.lss .plain rfl rfl rfl ?_
    refine Sq.part (fun c48 => ?_) (fun c48 => ?_)
    · refine Sq.nil ?_
      refine Eq.next ?_
      refine Cq.seq ?_
      refine Cq.thn rfl ?_
      refine Cq.skip ?_
      refine Eq.next ?_
      refine Cq.seq ?_
      refine Cq.block ?_
      refine Cq.seq ?_
      refine Cq.region ?_
      refine Sq.move .plain rfl rfl ?_
      obtain ⟨pA, rA, hpA, _⟩ := Rows.at (OwnRows.rows hn28) (i := i) (by omega) (by omega)
      refine Sq.val .plain rfl rfl (Still.at' sl23 hpA rfl rfl) ?_
      refine Sq.val .plain rfl rfl (Still.loadA one47 rfl hpA.1) ?_
      refine Sq.assign .plain rfl rfl ?_
      refine Sq.assign .plain rfl rfl ?_
      refine Sq.nil ?_
      refine Eq.next ?_
      refine Cq.seq ?_
      refine Cq.region ?_
      refine Sq.move .plain rfl rfl ?_
      have hrA0 := (OwnRows.rowAt hn28 hpA).1
      have hlen0 := (hsf.2 i.toNat (by omega)).1
      refine Sq.lenInts (Own.row hrA0) .plain rfl und47 rfl ?_
      refine Sq.move .plain rfl rfl ?_
      refine Sq.nil ?_
      refine Eq.next ?_
      refine Cq.block ?_
      refine Cq.loop (fun nn w ls => ∃ (j : Int), ∃ (yss : List (List Int)), ls = [(1, Value.pointer (some ⟨b1, 0, none⟩)), (2, Value.pointer (some ⟨b8, 0, none⟩)), (4, Value.pointer (some ⟨b34, 0, none⟩)), (15, nx26), (16, Value.int .i64 (List.length a.next : Int)), (17, Value.int .i64 i), (5, Value.int .i64 i), (6, rA), (23, Value.int .i64 ((List.length (xss.getD i.toNat []) : Int))), (24, Value.int .i64 j)] ∧ (0 ≤ j ∧ j ≤ (a.next.getD i.toNat []).length) ∧ wl1.heap.size ≤ w.heap.size ∧ OwnRows w w0.heap.size w.heap.size 47 3 nx26 yss ∧ At w 47 nx26 i pA rA ∧ SafeAt a i.toNat j.toNat yss ∧ Ext w0 w ∧ Blk w b1 26 [Value.int .i64 a.al, nx, ac] ∧ Blk w b8 26 [Value.int .i64 0, Value.slice none 0 0, Value.slice none 0 0] ∧ Blk w b34 26 [Value.int .i64 a.al, nx26, ac27] ∧ Own w w17.heap.size 4 ac27 (a.acc.map Value.bool) ∧ nn = (((a.next.getD i.toNat []).length : Int) - j).toNat) _ _ ⟨0, _, rfl, by omega, by omega, OwnRows.now hn28, hpA, hsf, E, hB4, hB11, hB37, ha29, rfl⟩ (.cons rfl (.cons rfl (.cons rfl (.cons rfl (.cons rfl (.cons rfl (.cons rfl (.cons rfl (.cons rfl (.cons rfl (.nil))))))))))) ?_
      rintro nn wl2 ls ⟨j, yss, rfl, hj, hsz, hn28, hpA, hsf2, E, hB4, hB11, hB37, ha29, rfl⟩
      have hs49 := Below.size E
      have hly := (hsf2.2 i.toNat (by omega)).1
      refine Cq.seq ?_
      refine Cq.region ?_
      refine Sq.lss .plain rfl rfl rfl ?_
      refine Sq.part (fun c50 => ?_) (fun c50 => ?_)
      · refine Sq.nil ?_
        refine Eq.next ?_
        refine Cq.seq ?_
        refine Cq.thn rfl ?_
        refine Cq.skip ?_
        refine Eq.next ?_
        refine Cq.seq ?_
        refine Cq.block ?_
        refine Cq.seq ?_
        refine Cq.region ?_
        refine Sq.move .plain rfl rfl ?_
        refine Sq.assign .plain rfl rfl ?_
        refine Sq.nil ?_
        refine Eq.next ?_
        refine Cq.seq ?_
        refine Cq.region ?_
        refine Sq.fieldAddr fld26_2 .plain rfl rfl ?_
        refine Sq.loadB one24 .plain rfl rfl hB4 rfl ?_
        refine Sq.move .plain rfl rfl ?_
        refine Sq.idxBools sl24 one4 (hac.ext E) .plain rfl rfl rfl .plain rfl rfl (by omega) (by omega) ?_
        refine Sq.partB (fun hac => ?_) (fun hac => ?_)
        · refine Sq.notT .plain rfl rfl ?_
          refine Sq.nil ?_
          refine Eq.next ?_
          refine Cq.els rfl ?_
          refine Cq.skip ?_
          refine Eq.end ?_
          refine Eq.next ?_
          refine Cq.region ?_
          refine Sq.add .plain rfl rfl rfl (by omega) ?_
          refine Sq.move .plain rfl rfl ?_
          refine Sq.nil ?_
          have e1 := toNat_succ hj.1
          refine Eq.round _ _ ⟨j + 1, _, rfl, by omega, by omega, OwnRows.now hn28, hpA, by rw [e1]; exact hsf2.skip hac, E, hB4, hB11, hB37, ha29, rfl⟩ (by omega) (.cons rfl (.cons rfl (.cons rfl (.cons rfl (.cons rfl (.cons rfl (.cons rfl (.cons rfl (.cons rfl (.cons rfl (.nil)))))))))))
        · refine Sq.notF .plain rfl rfl ?_
          refine Sq.nil ?_
          refine Eq.next ?_
          refine Cq.thn rfl ?_
          refine Cq.region ?_
          refine Sq.move .plain rfl rfl ?_
          refine Sq.move .plain rfl rfl ?_
          refine Sq.move .plain rfl rfl ?_
          have hr51 := (OwnRows.rowAt hn28 hpA).1
          obtain ⟨p52, hp53o⟩ := Own.at hr51 (i := j) (by omega) (by first | (simp only [List.length_map]; omega) | (simp; omega))
          refine Sq.atO sl47 hp53o .plain rfl rfl rfl ?_
          refine Sq.storeO one3 hr51 hp53o .plain rfl rfl rfl (fun w54 g55 ho56 => ?_)
          have hs57 := World.grownBy.size g55
          rw [← List.map_set] at ho56
          obtain ⟨hX1, hA1⟩ := OwnRows.set hn28 (by decide) hpA ho56 g55
          replace hn28 := hX1
          replace hpA := hA1
          replace E := E.owned hr51 g55 (by omega)
          replace hB4 := hB4.owned hr51 g55 (by decide)
          replace hB11 := hB11.owned hr51 g55 (by decide)
          replace hB37 := hB37.owned hr51 g55 (by decide)
          replace ha29 := ha29.owned hr51 g55 (by decide)
          refine Sq.nil ?_
          refine Eq.end ?_
          refine Eq.next ?_
          refine Cq.region ?_
          refine Sq.add .plain rfl rfl rfl (by omega) ?_
          refine Sq.move .plain rfl rfl ?_
          refine Sq.nil ?_
          have e1 := toNat_succ hj.1
          have e2 := hsf2.step (by omega) (by omega) hac
          rw [Int.toNat_of_nonneg hi.1] at e2
          refine Eq.round _ _ ⟨j + 1, _, rfl, by omega, by omega, OwnRows.now hn28, hpA, by rw [e1]; exact e2, E, hB4, hB11, hB37, ha29, rfl⟩ (by omega) (.cons rfl (.cons rfl (.cons rfl (.cons rfl (.cons rfl (.cons rfl (.cons rfl (.cons rfl (.cons rfl (.cons rfl (.nil)))))))))))
      · refine Sq.nil ?_
        refine Eq.next ?_
        refine Cq.seq ?_
        refine Cq.els rfl ?_
        refine Cq.exit ?_
        refine Eq.past ?_
        refine Eq.past ?_
        refine Eq.hit ?_
        refine Eq.end ?_
        refine Eq.next ?_
        refine Cq.region ?_
        refine Sq.add .plain rfl rfl rfl (by omega) ?_
        refine Sq.move .plain rfl rfl ?_
        refine Sq.nil ?_
        have e1 := toNat_succ hi.1
        refine Eq.round _ _ ⟨i + 1, _, rfl, by omega, OwnRows.now hn28, by rw [e1]; exact hsf2.next (.inl (by omega)), E, hB4, hB11, hB37, ha29, rfl⟩ (by omega) (.cons rfl (.cons rfl (.cons rfl (.cons rfl (.cons rfl (.cons rfl (.nil)))))))
    · refine Sq.nil ?_
      refine Eq.next ?_
      refine Cq.seq ?_
      refine Cq.els rfl ?_
      refine Cq.exit ?_
      refine Eq.past ?_
      refine Eq.past ?_
      refine Eq.hit ?_
      refine Eq.next ?_
      refine Cq.seq ?_
      refine Cq.region ?_
      refine Sq.loadAgg agg26 .plain rfl rfl hB37 rfl ?_
      refine Sq.storeAgg agg26 .plain rfl rfl (one_cons rfl (one_cons (Rows.one (OwnRows.rows hn28)) (one_cons (Row.one (Own.row ha29)) one_nil))) hB11 rfl rfl (fun w58 g59 hB60 => ?_)
      have hs61 := World.grownBy.size g59
      replace E := E.grown g59 (fun k hk => by injection hk with hk; subst hk; omega)
      replace hB4 := hB4.grown g59 (by intro h; injection h with h; omega)
      replace hB37 := hB37.grown g59 (by intro h; injection h with h; omega)
      replace ha29 := ha29.stored g59 hB11 (by decide)
      replace hn28 := hn28.stored g59 hB11 (by decide) (by decide)
      replace hB11 := hB60
      refine Sq.assign .plain rfl rfl ?_
      refine Sq.nil ?_
      refine Eq.next ?_
      refine Cq.ret ?_
      refine Eq.retCell2 rfl rfl agg26 hB11 rfl rfl ?_
      have e := hsf.done (by omega)
      rw [e] at hn28
      exact ⟨⟨_, by rw [hv], by rw [if_pos hv]; exact ⟨_, _, rfl, OwnRows.now (OwnRows.mono hn28 (by omega)), Own.mono ha29 (by omega)⟩⟩, E⟩
  · refine Sq.notF .plain rfl rfl ?_
    refine Sq.nil ?_
    refine Eq.next ?_
    refine Cq.thn rfl ?_
    refine Cq.seq ?_
    refine Cq.region ?_
    refine Sq.build st26 rfl rfl .plain rfl rfl one_nil rfl ?_
    refine Sq.storeAgg agg26 .plain rfl rfl (one_cons rfl (one_cons rfl (one_cons rfl one_nil))) hB11 rfl rfl (fun w62 g63 hB64 => ?_)
    have hs65 := World.grownBy.size g63
    replace E := E.grown g63 (fun k hk => by injection hk with hk; subst hk; omega)
    replace hB4 := hB4.grown g63 (by intro h; injection h with h; omega)
    replace hB11 := hB64
    refine Sq.assign .plain rfl rfl ?_
    refine Sq.nil ?_
    refine Eq.next ?_
    refine Cq.ret ?_
    refine Eq.pastRet ?_
    refine Eq.retCell2 rfl rfl agg26 hB11 rfl rfl ?_
    exact ⟨⟨_, by rw [hv], by rw [if_neg (by simp [hv])]; exact ⟨_, _, rfl, OwnRows.nil _ _ _ _ _, Own.nil _ _ _⟩⟩, E⟩

theorem safety_c_T (w0 : World) (a : A) (nx ac : Value) (hnx : Rows w0 47 3 nx a.next) (hac : Bools w0 4 ac a.acc) (hC : (validA a) = true) : Ret Try.prog 16 #[Value.agg #[Value.int .i64 a.al, nx, ac]] w0 (fun v w => (∃ u, v = .tuple #[u, .bool true] ∧ OwnA w w0.heap.size u (safe a)) ∧ Ext w0 w) :=
  (safety_c w0 a nx ac hnx hac).mono fun v w h => by rw [hC, if_pos rfl] at h; exact h
theorem safety_c_F (w0 : World) (a : A) (nx ac : Value) (hnx : Rows w0 47 3 nx a.next) (hac : Bools w0 4 ac a.acc) (hC : (validA a) = false) : Ret Try.prog 16 #[Value.agg #[Value.int .i64 a.al, nx, ac]] w0 (fun v w => (∃ u, v = .tuple #[u, .bool false] ∧ OwnA w w0.heap.size u (zeroA)) ∧ Ext w0 w) :=
  (safety_c w0 a nx ac hnx hac).mono fun v w h => by rw [hC, if_neg (by decide)] at h; exact h

set_option maxRecDepth 100000 in
theorem sSafety_c (w0 : World) (a : A) (nx ac : Value) (hnx : Rows w0 47 3 nx a.next) (hac : Bools w0 4 ac a.acc) : Ret Try.prog 17 #[Value.agg #[Value.int .i64 a.al, nx, ac]] w0 (fun v w => (∃ u, v = .tuple #[u, .bool (validA a)] ∧ OwnA w w0.heap.size u (if validA a then safe a else zeroA)) ∧ Ext w0 w) := by
  have E := Ext.refl w0
  refine Ret.of (args := [Value.agg #[Value.int .i64 a.al, nx, ac]]) Try.func17 rfl rfl rfl ?_
  rintro _ rfl
  show Cq _ _ _ _ [(0, Value.agg #[Value.int .i64 a.al, nx, ac])] _
  refine Cq.seq ?_
  refine Cq.region ?_
  refine Sq.box .plain rfl rfl (fun b1 w2 e3 hB4 hlo5 => ?_)
  have hd6 := Nat.le_trans (Below.size E) hlo5
  have hs7 := Below.size e3
  replace E := E.trans e3
  refine Sq.alloc zero26 .plain rfl (fun b8 w9 e10 hB11 hlo12 => ?_)
  have hd13 := Nat.le_trans (Below.size E) hlo12
  have hd14 := Nat.lt_of_lt_of_le hB4.lt hlo12
  have hs15 := Below.size e10
  replace E := E.trans e10
  replace hB4 := hB4.ext e10
  refine Sq.assign .plain rfl rfl ?_
  refine Sq.nil ?_
  refine Eq.next ?_
  refine Cq.seq ?_
  refine Cq.seq ?_
  refine Cq.region ?_
  refine Sq.loadAgg agg26 .plain rfl rfl hB4 rfl ?_
  have hd19 := hB4.lt
  have hd20 := hB11.lt
  refine Sq.call fn44 .plain rfl rfl (sValid_c _ a _ _ (hnx.ext E) (hac.ext E)) ?_
  rintro _ w17 ⟨rfl, e18⟩
  have hs21 := Below.size E
  have hs22 := Below.size e18
  replace E := E.trans e18
  replace hB4 := hB4.ext e18
  replace hB11 := hB11.ext e18
  refine Sq.partB (fun hv => ?_) (fun hv => ?_)
  · refine Sq.notT .plain rfl rfl ?_
    refine Sq.nil ?_
    refine Eq.next ?_
    refine Cq.els rfl ?_
    refine Cq.skip ?_
    refine Eq.next ?_
    refine Cq.seq ?_
    refine Cq.region ?_
    refine Sq.loadAgg agg26 .plain rfl rfl hB4 rfl ?_
    have hd30 := hB4.lt
    have hd31 := hB11.lt
    refine Sq.call fn45 .plain rfl rfl (l3Copy_c _ a _ _ (hnx.ext E) (hac.ext E) (fit_of_valid hv)) ?_
    rintro _ w24 ⟨⟨nx26, ac27, rfl, hn28, ha29⟩, e25⟩
    have hs32 := Below.size E
    have hs33 := Below.size e25
    replace E := E.trans e25
    replace hB4 := hB4.ext e25
    replace hB11 := hB11.ext e25
    refine Sq.alloc zero26 .plain rfl (fun b34 w35 e36 hB37 hlo38 => ?_)
    have hd39 := Nat.le_trans (Below.size E) hlo38
    have hd40 := Nat.lt_of_lt_of_le hB4.lt hlo38
    have hd41 := Nat.lt_of_lt_of_le hB11.lt hlo38
    have hs42 := Below.size e36
    replace E := E.trans e36
    replace hB4 := hB4.ext e36
    replace hB11 := hB11.ext e36
    replace hn28 := hn28.ext e36
    replace ha29 := ha29.ext e36
    refine Sq.storeAgg agg26 .plain rfl rfl (one_cons rfl (one_cons (Rows.one (OwnRows.rows hn28)) (one_cons (Row.one (Own.row ha29)) one_nil))) hB37 rfl rfl (fun w43 g44 hB45 => ?_)
    have hs46 := World.grownBy.size g44
    replace E := E.grown g44 (fun k hk => by injection hk with hk; subst hk; omega)
    replace hB4 := hB4.grown g44 (by intro h; injection h with h; omega)
    replace hB11 := hB11.grown g44 (by intro h; injection h with h; omega)
    replace hn28 := hn28.stored g44 hB37 (by decide) (by decide)
    replace ha29 := ha29.stored g44 hB37 (by decide)
    replace hB37 := hB45
    refine Sq.nil ?_
    refine Eq.next ?_
    refine Cq.seq ?_
    refine Cq.seq ?_
    refine Cq.region ?_
    refine Sq.assign .plain rfl rfl ?_
    refine Sq.nil ?_
    refine Eq.next ?_
    refine Cq.block ?_
    have hvs := validA_spec.1 hv
    have hv1 := hvs.2.1
    have hv2 := hvs.2.2.1
    refine Cq.loop (fun nn w ls => ∃ (i : Int), ∃ (xss : List (List Int)), ls = [(1, Value.pointer (some ⟨b1, 0, none⟩)), (2, Value.pointer (some ⟨b8, 0, none⟩)), (4, Value.pointer (some ⟨b34, 0, none⟩)), (5, Value.int .i64 i)] ∧ (0 ≤ i ∧ i ≤ a.next.length) ∧ OwnRows w w0.heap.size w.heap.size 47 3 nx26 xss ∧ SafeAt a i.toNat 0 xss ∧ Ext w0 w ∧ Blk w b1 26 [Value.int .i64 a.al, nx, ac] ∧ Blk w b8 26 [Value.int .i64 0, Value.slice none 0 0, Value.slice none 0 0] ∧ Blk w b34 26 [Value.int .i64 a.al, nx26, ac27] ∧ Own w w17.heap.size 4 ac27 (a.acc.map Value.bool) ∧ nn = ((a.next.length : Int) - i).toNat) _ _ ⟨0, _, rfl, by omega, OwnRows.mono (OwnRows.now hn28) (by omega), SafeAt.zero a, E, hB4, hB11, hB37, ha29, rfl⟩ (.cons rfl (.cons rfl (.cons rfl (.cons rfl (.nil))))) ?_
    rintro nn wl1 ls ⟨i, xss, rfl, hi, hn28, hsf, E, hB4, hB11, hB37, ha29, rfl⟩
    have hs47 := Below.size E
    have hxl := hsf.1
    have hr6 := valid_row6 hv (k := i.toNat)
    refine Cq.seq ?_
    refine Cq.seq ?_
    refine Cq.region ?_
    refine Sq.move .plain rfl rfl ?_
    refine Sq.fieldAddr fld26_1 .plain rfl rfl ?_
    refine Sq.loadB one23 .plain rfl rfl hB37 rfl ?_
    refine Sq.lenRows (OwnRows.rows hn28) .plain rfl und23 rfl ?_
    refine Sq.lss .plain rfl rfl rfl ?_
    refine Sq.part (fun c48 => ?_) (fun c48 => ?_)
    · refine Sq.nil ?_
      refine Eq.next ?_
      refine Cq.thn rfl ?_
      refine Cq.skip ?_
      refine Eq.next ?_
      refine Cq.seq ?_
      refine Cq.block ?_
      refine Cq.seq ?_
      refine Cq.region ?_
      refine Sq.assign .plain rfl rfl ?_
      refine Sq.nil ?_
      refine Eq.next ?_
      refine Cq.block ?_
      refine Cq.loop (fun nn w ls => ∃ (j : Int), ∃ (yss : List (List Int)), ls = [(1, Value.pointer (some ⟨b1, 0, none⟩)), (2, Value.pointer (some ⟨b8, 0, none⟩)), (4, Value.pointer (some ⟨b34, 0, none⟩)), (5, Value.int .i64 i), (6, Value.int .i64 j)] ∧ (0 ≤ j ∧ j ≤ (a.next.getD i.toNat []).length) ∧ wl1.heap.size ≤ w.heap.size ∧ OwnRows w w0.heap.size w.heap.size 47 3 nx26 yss ∧ SafeAt a i.toNat j.toNat yss ∧ Ext w0 w ∧ Blk w b1 26 [Value.int .i64 a.al, nx, ac] ∧ Blk w b8 26 [Value.int .i64 0, Value.slice none 0 0, Value.slice none 0 0] ∧ Blk w b34 26 [Value.int .i64 a.al, nx26, ac27] ∧ Own w w17.heap.size 4 ac27 (a.acc.map Value.bool) ∧ nn = (((a.next.getD i.toNat []).length : Int) - j).toNat) _ _ ⟨0, _, rfl, by omega, by omega, OwnRows.now hn28, hsf, E, hB4, hB11, hB37, ha29, rfl⟩ (.cons rfl (.cons rfl (.cons rfl (.cons rfl (.cons rfl (.nil)))))) ?_
      rintro nn wl2 ls ⟨j, yss, rfl, hj, hsz, hn28, hsf2, E, hB4, hB11, hB37, ha29, rfl⟩
      have hs49 := Below.size E
      have hyl := hsf2.1
      have hly := (hsf2.2 i.toNat (by omega)).1
      refine Cq.seq ?_
      refine Cq.seq ?_
      refine Cq.region ?_
      refine Sq.move .plain rfl rfl ?_
      refine Sq.fieldAddr fld26_1 .plain rfl rfl ?_
      refine Sq.loadB one23 .plain rfl rfl hB37 rfl ?_
      refine Sq.move .plain rfl rfl ?_
      refine Sq.idxRows sl23 one47 (OwnRows.rows hn28) .plain rfl rfl rfl .plain rfl rfl (by omega) (by omega) (fun r50 hr51 => ?_)
      refine Sq.lenInts hr51 .plain rfl und47 rfl ?_
      refine Sq.lss .plain rfl rfl rfl ?_
      refine Sq.part (fun hlt => ?_) (fun hlt => ?_)
      · refine Sq.move .plain rfl rfl ?_
        refine Sq.fieldAddr fld26_2 (.met rfl rfl rfl) rfl rfl ?_
        refine Sq.loadB one24 (.met rfl rfl rfl) rfl rfl hB4 rfl ?_
        refine Sq.move (.met rfl rfl rfl) rfl rfl ?_
        refine Sq.idxBools sl24 one4 (hac.ext E) (.met rfl rfl rfl) rfl rfl rfl (.met rfl rfl rfl) rfl rfl (by omega) (by omega) ?_
        refine Sq.partB (fun hac => ?_) (fun hac => ?_)
        · refine Sq.notT (.met rfl rfl rfl) rfl rfl ?_
          refine Sq.pickT .plain rfl rfl rfl ?_
          refine Sq.nil ?_
          refine Eq.next ?_
          refine Cq.els rfl ?_
          refine Cq.exit ?_
          refine Eq.past ?_
          refine Eq.past ?_
          refine Eq.hit ?_
          refine Eq.end ?_
          refine Eq.next ?_
          refine Cq.region ?_
          refine Sq.move .plain rfl rfl ?_
          refine Sq.add .plain rfl rfl rfl (by omega) ?_
          refine Sq.assign .plain rfl rfl ?_
          refine Sq.nil ?_
          have e1 := toNat_succ hi.1
          refine Eq.round _ _ ⟨i + 1, _, rfl, by omega, OwnRows.now hn28, by rw [e1]; exact hsf2.next (.inr hac), E, hB4, hB11, hB37, ha29, rfl⟩ (by omega) (.cons rfl (.cons rfl (.cons rfl (.cons rfl (.nil)))))
        · refine Sq.notF (.met rfl rfl rfl) rfl rfl ?_
          refine Sq.pickT .plain rfl rfl rfl ?_
          refine Sq.nil ?_
          refine Eq.next ?_
          refine Cq.thn rfl ?_
          refine Cq.skip ?_
          refine Eq.next ?_
          refine Cq.seq ?_
          refine Cq.block ?_
          refine Cq.region ?_
          refine Sq.fieldAddr fld26_1 .plain rfl rfl ?_
          refine Sq.loadB one23 .plain rfl rfl hB37 rfl ?_
          refine Sq.move .plain rfl rfl ?_
          obtain ⟨p52, r54, hp53, _⟩ := Rows.at (OwnRows.rows hn28) (i := i) (by omega) (by omega)
          have hr55 := (OwnRows.rowAt hn28 hp53).1
          refine Sq.val .plain rfl rfl (Still.at' sl23 hp53 rfl rfl) ?_
          refine Sq.val .plain rfl rfl (Still.loadA one47 rfl hp53.1) ?_
          refine Sq.move .plain rfl rfl ?_
          refine Sq.move .plain rfl rfl ?_
          obtain ⟨p56, hp57o⟩ := Own.at hr55 (i := j) (by omega) (by first | (simp only [List.length_map]; omega) | (simp; omega))
          refine Sq.atO sl47 hp57o .plain rfl rfl rfl ?_
          refine Sq.storeO one3 hr55 hp57o .plain rfl rfl rfl (fun w58 g59 ho60 => ?_)
          have hs61 := World.grownBy.size g59
          rw [← List.map_set] at ho60
          replace hn28 := (OwnRows.set hn28 (by decide) hp53 ho60 g59).1
          replace E := E.owned hr55 g59 (by omega)
          replace hB4 := hB4.owned hr55 g59 (by decide)
          replace hB11 := hB11.owned hr55 g59 (by decide)
          replace hB37 := hB37.owned hr55 g59 (by decide)
          replace ha29 := ha29.owned hr55 g59 (by decide)
          replace hr55 := ho60
          refine Sq.nil ?_
          refine Eq.end ?_
          refine Eq.next ?_
          refine Cq.region ?_
          refine Sq.move .plain rfl rfl ?_
          refine Sq.add .plain rfl rfl rfl (by omega) ?_
          refine Sq.assign .plain rfl rfl ?_
          refine Sq.nil ?_
          have e1 := toNat_succ hj.1
          have e2 := hsf2.step (by omega) (by omega) hac
          rw [Int.toNat_of_nonneg hi.1] at e2
          refine Eq.round _ _ ⟨j + 1, _, rfl, by omega, by omega, OwnRows.now hn28, by rw [e1]; exact e2, E, hB4, hB11, hB37, ha29, rfl⟩ (by omega) (.cons rfl (.cons rfl (.cons rfl (.cons rfl (.cons rfl (.nil))))))
      · refine Sq.move .plain rfl rfl ?_
        refine Sq.off rfl rfl rfl rfl rfl rfl ?_
        refine Sq.off rfl rfl rfl rfl rfl rfl ?_
        refine Sq.off rfl rfl rfl rfl rfl rfl ?_
        refine Sq.off rfl rfl rfl rfl rfl rfl ?_
        refine Sq.off rfl rfl rfl rfl rfl rfl ?_
        refine Sq.off rfl rfl rfl rfl rfl rfl ?_
        refine Sq.pickF .plain rfl rfl rfl ?_
        refine Sq.nil ?_
        refine Eq.next ?_
        refine Cq.els rfl ?_
        refine Cq.exit ?_
        refine Eq.past ?_
        refine Eq.past ?_
        refine Eq.hit ?_
        refine Eq.end ?_
        refine Eq.next ?_
        refine Cq.region ?_
        refine Sq.move .plain rfl rfl ?_
        refine Sq.add .plain rfl rfl rfl (by omega) ?_
        refine Sq.assign .plain rfl rfl ?_
        refine Sq.nil ?_
        have e1 := toNat_succ hi.1
        refine Eq.round _ _ ⟨i + 1, _, rfl, by omega, OwnRows.now hn28, by rw [e1]; exact hsf2.next (.inl (by omega)), E, hB4, hB11, hB37, ha29, rfl⟩ (by omega) (.cons rfl (.cons rfl (.cons rfl (.cons rfl (.nil)))))
    · refine Sq.nil ?_
      refine Eq.next ?_
      refine Cq.els rfl ?_
      refine Cq.exit ?_
      refine Eq.past ?_
      refine Eq.past ?_
      refine Eq.hit ?_
      refine Eq.next ?_
      refine Cq.seq ?_
      refine Cq.region ?_
      refine Sq.loadAgg agg26 .plain rfl rfl hB37 rfl ?_
      refine Sq.storeAgg agg26 .plain rfl rfl (one_cons rfl (one_cons (Rows.one (OwnRows.rows hn28)) (one_cons (Row.one (Own.row ha29)) one_nil))) hB11 rfl rfl (fun w62 g63 hB64 => ?_)
      have hs65 := World.grownBy.size g63
      replace E := E.grown g63 (fun k hk => by injection hk with hk; subst hk; omega)
      replace hB4 := hB4.grown g63 (by intro h; injection h with h; omega)
      replace hB37 := hB37.grown g63 (by intro h; injection h with h; omega)
      replace ha29 := ha29.stored g63 hB11 (by decide)
      replace hn28 := hn28.stored g63 hB11 (by decide) (by decide)
      replace hB11 := hB64
      refine Sq.assign .plain rfl rfl ?_
      refine Sq.nil ?_
      refine Eq.next ?_
      refine Cq.ret ?_
      refine Eq.retCell2 rfl rfl agg26 hB11 rfl rfl ?_
      have e := hsf.done (by omega)
      rw [e] at hn28
      exact ⟨⟨_, by rw [hv], by rw [if_pos hv]; exact ⟨_, _, rfl, OwnRows.now (OwnRows.mono hn28 (by omega)), Own.mono ha29 (by omega)⟩⟩, E⟩
  · refine Sq.notF .plain rfl rfl ?_
    refine Sq.nil ?_
    refine Eq.next ?_
    refine Cq.thn rfl ?_
    refine Cq.seq ?_
    refine Cq.region ?_
    refine Sq.build st26 rfl rfl .plain rfl rfl one_nil rfl ?_
    refine Sq.storeAgg agg26 .plain rfl rfl (one_cons rfl (one_cons rfl (one_cons rfl one_nil))) hB11 rfl rfl (fun w66 g67 hB68 => ?_)
    have hs69 := World.grownBy.size g67
    replace E := E.grown g67 (fun k hk => by injection hk with hk; subst hk; omega)
    replace hB4 := hB4.grown g67 (by intro h; injection h with h; omega)
    replace hB11 := hB68
    refine Sq.assign .plain rfl rfl ?_
    refine Sq.nil ?_
    refine Eq.next ?_
    refine Cq.ret ?_
    refine Eq.pastRet ?_
    refine Eq.retCell2 rfl rfl agg26 hB11 rfl rfl ?_
    exact ⟨⟨_, by rw [hv], by rw [if_neg (by simp [hv])]; exact ⟨_, _, rfl, OwnRows.nil _ _ _ _ _, Own.nil _ _ _⟩⟩, E⟩

theorem sSafety_c_T (w0 : World) (a : A) (nx ac : Value) (hnx : Rows w0 47 3 nx a.next) (hac : Bools w0 4 ac a.acc) (hC : (validA a) = true) : Ret Try.prog 17 #[Value.agg #[Value.int .i64 a.al, nx, ac]] w0 (fun v w => (∃ u, v = .tuple #[u, .bool true] ∧ OwnA w w0.heap.size u (safe a)) ∧ Ext w0 w) :=
  (sSafety_c w0 a nx ac hnx hac).mono fun v w h => by rw [hC, if_pos rfl] at h; exact h
theorem sSafety_c_F (w0 : World) (a : A) (nx ac : Value) (hnx : Rows w0 47 3 nx a.next) (hac : Bools w0 4 ac a.acc) (hC : (validA a) = false) : Ret Try.prog 17 #[Value.agg #[Value.int .i64 a.al, nx, ac]] w0 (fun v w => (∃ u, v = .tuple #[u, .bool false] ∧ OwnA w w0.heap.size u (zeroA)) ∧ Ext w0 w) :=
  (sSafety_c w0 a nx ac hnx hac).mono fun v w h => by rw [hC, if_neg (by decide)] at h; exact h

end Go.Proofs.Ytmlhgkfbiapakaa
