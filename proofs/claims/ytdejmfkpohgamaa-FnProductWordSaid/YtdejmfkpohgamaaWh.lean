/-
  Walks, printed by a program out of the translation and a contract for each function; each step is one law.
-/
import Derived.Test.YtdejmfkpohgamaaWf
import Derived.Test.YtdejmfkpohgamaaWg
set_option linter.unusedSimpArgs false
set_option linter.unusedVariables false
namespace Go.Proofs.Ytdejmfkpohgamaa
open Go.RowKit

set_option maxRecDepth 100000 in
theorem parseA_c (s : ByteArray) (hs : s.size ≤ 100) (w0 : World) : Ret Try.prog 84 #[Value.string s] w0 (fun v w => (∃ (u : Value) (ok : Bool) (a : A), v = .tuple #[u, .bool ok] ∧ OwnA w w0.heap.size u a ∧ Small 200 a) ∧ Ext w0 w) := by
  have E := Ext.refl w0
  refine Ret.of (args := [Value.string s]) Try.func84 rfl rfl rfl ?_
  rintro _ rfl
  show Cq _ _ _ _ [(0, Value.string s)] _
  refine Cq.seq ?_
  refine Cq.region ?_
  refine Sq.alloc zero26 .plain rfl (fun b1 w2 e3 hB4 hlo5 => ?_)
  have hd6 := Nat.le_trans (Below.size E) hlo5
  have hs7 := Below.size e3
  replace E := E.trans e3
  refine Sq.assign .plain rfl rfl ?_
  refine Sq.nil ?_
  refine Eq.next ?_
  refine Cq.seq ?_
  refine Cq.region ?_
  refine Sq.move .plain rfl rfl ?_
  have hd15 := hB4.lt
  refine Sq.call fn110 .plain rfl rfl (cut_c s 32 (by omega) _) ?_
  rintro v8 w9 ⟨⟨xs11, ho12, hxl13, hxs14⟩, e10⟩
  have hs16 := Below.size E
  have hs17 := Below.size e10
  replace E := E.trans e10
  replace hB4 := hB4.ext e10
  refine Sq.assign .plain rfl rfl ?_
  refine Sq.nil ?_
  refine Eq.next ?_
  refine Cq.seq ?_
  refine Cq.region ?_
  refine Sq.move .plain rfl rfl ?_
  refine Sq.idxStrs sl91 one9 (Own.row ho12) .plain rfl rfl rfl .plain rfl rfl (by omega) (by omega) ?_
  have hd24 := hB4.lt
  refine Sq.call fn111 .plain rfl rfl (parseAl_c ((xs11.getD (0 : Int).toNat ByteArray.empty)) _) ?_
  rintro _ w19 ⟨⟨n21, ok22, rfl, hn23⟩, e20⟩
  have hs25 := Below.size E
  have hs26 := Below.size e20
  replace E := E.trans e20
  replace hB4 := hB4.ext e20
  replace ho12 := ho12.ext e20
  refine Sq.move .plain rfl rfl ?_
  refine Sq.extract .plain rfl rfl rfl ?_
  refine Sq.extract .plain rfl rfl rfl ?_
  refine Sq.assign .plain rfl rfl ?_
  refine Sq.assign .plain rfl rfl ?_
  refine Sq.nil ?_
  refine Eq.next ?_
  refine Cq.seq ?_
  refine Cq.seq ?_
  refine Cq.region ?_
  refine Sq.move .plain rfl rfl ?_
  refine Sq.partB (fun c27 => ?_) (fun c27 => ?_)
  · refine Sq.notT .plain rfl rfl ?_
    refine Sq.nil ?_
    refine Eq.next ?_
    refine Cq.els rfl ?_
    refine Cq.skip ?_
    refine Eq.next ?_
    refine Cq.seq ?_
    refine Cq.region ?_
    refine Sq.move .plain rfl rfl ?_
    refine Sq.build st26 rfl rfl .plain rfl rfl (one_cons rfl one_nil) rfl ?_
    refine Sq.alloc zero26 .plain rfl (fun b28 w29 e30 hB31 hlo32 => ?_)
    have hd33 := Nat.le_trans (Below.size E) hlo32
    have hd34 := Nat.lt_of_lt_of_le hB4.lt hlo32
    have hs35 := Below.size e30
    replace E := E.trans e30
    replace hB4 := hB4.ext e30
    replace ho12 := ho12.ext e30
    refine Sq.storeAgg agg26 .plain rfl rfl (one_cons rfl (one_cons rfl (one_cons rfl one_nil))) hB31 rfl rfl (fun w36 g37 hB38 => ?_)
    have hs39 := World.grownBy.size g37
    replace E := E.grown g37 (fun k hk => by injection hk with hk; subst hk; omega)
    replace hB4 := hB4.grown g37 (by intro h; injection h with h; omega)
    replace ho12 := ho12.stored g37 hB31 (by decide)
    replace hB31 := hB38
    refine Sq.nil ?_
    refine Eq.next ?_
    refine Cq.seq ?_
    refine Cq.seq ?_
    refine Cq.region ?_
    refine Sq.assign .plain rfl rfl ?_
    refine Sq.nil ?_
    refine Eq.next ?_
    refine Cq.block ?_
    refine Cq.loop (fun nn w ls => ∃ (i : Int), ∃ (nxv : Value), ∃ (acv : Value), ∃ (xss : List (List Int)), ∃ (ys : List Bool), ls = [(0, Value.string s), (2, Value.pointer (some ⟨b1, 0, none⟩)), (4, v8), (7, Value.pointer (some ⟨b28, 0, none⟩)), (8, Value.int .i64 i)] ∧ (1 ≤ i ∧ i ≤ xs11.length) ∧ Blk w b28 26 [Value.int .i64 n21, nxv, acv] ∧ OwnRows w w0.heap.size w.heap.size 56 3 nxv xss ∧ Own w w0.heap.size 4 acv (ys.map Value.bool) ∧ ((xss.length : Int) = i - 1 ∧ (ys.length : Int) = i - 1 ∧ ∀ row ∈ xss, row.length ≤ 150) ∧ Ext w0 w ∧ Blk w b1 26 [Value.int .i64 0, Value.slice none 0 0, Value.slice none 0 0] ∧ Own w w2.heap.size 9 v8 (xs11.map Value.string) ∧ nn = ((xs11.length : Int) - i).toNat) _ _ ⟨1, _, _, [], [], rfl, by omega, hB31, OwnRows.nil _ _ _ _ _, Own.nil _ _ _, by simp, E, hB4, ho12, rfl⟩ (.cons rfl (.cons rfl (.cons rfl (.cons rfl (.cons rfl (.nil)))))) ?_
    rintro nn wl1 ls ⟨i, nxv, acv, xss, ys, rfl, hi, hB7, hor, hoa, hxl, E, hB4, ho12, rfl⟩
    have hs40 := Below.size E
    refine Cq.seq ?_
    refine Cq.seq ?_
    refine Cq.region ?_
    refine Sq.move .plain rfl rfl ?_
    refine Sq.move .plain rfl rfl ?_
    refine Sq.lenStrs (Own.row ho12) .plain rfl und91 rfl ?_
    refine Sq.lss .plain rfl rfl rfl ?_
    refine Sq.part (fun c41 => ?_) (fun c41 => ?_)
    · refine Sq.nil ?_
      refine Eq.next ?_
      refine Cq.thn rfl ?_
      refine Cq.skip ?_
      refine Eq.next ?_
      refine Cq.seq ?_
      refine Cq.block ?_
      refine Cq.seq ?_
      refine Cq.seq ?_
      refine Cq.region ?_
      refine Sq.move .plain rfl rfl ?_
      refine Sq.move .plain rfl rfl ?_
      refine Sq.idxStrs sl91 one9 (Own.row ho12) .plain rfl rfl rfl .plain rfl rfl (by omega) (by omega) ?_
      refine Sq.eqlS .plain rfl rfl rfl ?_
      refine Sq.part (fun hne => ?_) (fun hne => ?_)
      · refine Sq.nil ?_
        refine Eq.next ?_
        refine Cq.thn rfl ?_
        refine Cq.seq ?_
        refine Cq.region ?_
        refine Sq.build st26 rfl rfl .plain rfl rfl one_nil rfl ?_
        refine Sq.storeAgg agg26 .plain rfl rfl (one_cons rfl (one_cons rfl (one_cons rfl one_nil))) hB4 rfl rfl (fun w42 g43 hB44 => ?_)
        have hs45 := World.grownBy.size g43
        replace E := E.grown g43 (fun k hk => by injection hk with hk; subst hk; omega)
        replace ho12 := ho12.stored g43 hB4 (by decide)
        replace hB7 := hB7.grown g43 (by intro h; injection h with h; omega)
        replace hor := hor.stored g43 hB4 (by decide) (by decide)
        replace hoa := hoa.stored g43 hB4 (by decide)
        replace hB4 := hB44
        refine Sq.assign .plain rfl rfl ?_
        refine Sq.nil ?_
        refine Eq.next ?_
        refine Cq.ret ?_
        refine Eq.pastRet ?_
        refine Eq.outRet ?_
        refine Eq.pastRet ?_
        refine Eq.pastRet ?_
        refine Eq.outRet ?_
        refine Eq.pastRet ?_
        refine Eq.retCell2 rfl rfl agg26 hB4 rfl rfl ?_
        exact ⟨⟨_, _, zeroA, rfl, ⟨_, _, rfl, OwnRows.nil _ _ _ _ _, Own.nil _ _ _⟩, by refine ⟨?_, ?_, ?_, ?_⟩ <;> simp [zeroA]⟩, E⟩
      · refine Sq.nil ?_
        refine Eq.next ?_
        refine Cq.els rfl ?_
        refine Cq.skip ?_
        refine Eq.next ?_
        refine Cq.seq ?_
        refine Cq.region ?_
        have hne1 := str_ne hne
        have hps := hxs14 _ (getD_mem (d := ByteArray.empty) (k := i.toNat) (by omega))
        have hcl : ((xs11.getD i.toNat ByteArray.empty).extract (1 : Int).toNat (xs11.getD i.toNat ByteArray.empty).size).size ≤ 100 := Nat.le_trans (size_cut _) (by omega)
        refine Sq.move .plain rfl rfl ?_
        refine Sq.move .plain rfl rfl ?_
        refine Sq.idxStrs sl91 one9 (Own.row ho12) .plain rfl rfl rfl .plain rfl rfl (by omega) (by omega) ?_
        refine Sq.val .plain rfl rfl (Still.cutL und9 rfl rfl (by omega)) ?_
        have hd54 := hB4.lt
        have hd55 := hB7.lt
        refine Sq.call fn112 .plain rfl rfl (l3Parse_c (((xs11.getD i.toNat ByteArray.empty).extract (1 : Int).toNat (xs11.getD i.toNat ByteArray.empty).size)) (by omega) _) ?_
        rintro _ w47 ⟨⟨r49, ok50, xs51, rfl, ho52, hl53⟩, e48⟩
        have hs56 := Below.size E
        have hs57 := Below.size e48
        replace E := E.trans e48
        replace hB4 := hB4.ext e48
        replace ho12 := ho12.ext e48
        replace hB7 := hB7.ext e48
        replace hor := hor.ext e48
        replace hoa := hoa.ext e48
        refine Sq.move .plain rfl rfl ?_
        refine Sq.extract .plain rfl rfl rfl ?_
        refine Sq.extract .plain rfl rfl rfl ?_
        refine Sq.assign .plain rfl rfl ?_
        refine Sq.assign .plain rfl rfl ?_
        refine Sq.nil ?_
        refine Eq.next ?_
        refine Cq.seq ?_
        refine Cq.seq ?_
        refine Cq.region ?_
        refine Sq.move .plain rfl rfl ?_
        refine Sq.partB (fun c58 => ?_) (fun c58 => ?_)
        · refine Sq.notT .plain rfl rfl ?_
          refine Sq.nil ?_
          refine Eq.next ?_
          refine Cq.els rfl ?_
          refine Cq.skip ?_
          refine Eq.next ?_
          refine Cq.seq ?_
          refine Cq.region ?_
          refine Sq.fieldAddr fld26_1 .plain rfl rfl ?_
          refine Sq.loadB one23 .plain rfl rfl hB7 rfl ?_
          refine Sq.move .plain rfl rfl ?_
          obtain ⟨rs63, q64, q65, q66⟩ := OwnRows.open hor (by decide)
          have q66x := Ext.refl w47
          refine Sq.app1 sl23 q64 (by omega) (by rw [q65]; first | omega | (simp; omega)) .plain rfl rfl rfl rfl rfl rfl (Row.one (Own.row ho52)) (fun v59 w60 ho62 g61 _ => ?_)
          have hs67 := g61.size
          have ho62r := q66 _ xs51 _ _ _ (Ext.refl _) (Own.mono ho52 (by omega)) (by omega) ho62 g61
          replace E := E.owned q64 g61 (by omega)
          replace hB4 := hB4.owned q64 g61 (by decide)
          replace ho12 := ho12.owned q64 g61 (by decide)
          replace hB7 := hB7.owned q64 g61 (by decide)
          replace hoa := hoa.owned q64 g61 (by decide)
          replace ho52 := ho52.owned q64 g61 (by decide)
          refine Sq.fieldAddr fld26_1 .plain rfl rfl ?_
          refine Sq.store one23 .plain rfl rfl (Rows.one (OwnRows.rows ho62r)) hB7 (by simp) (fun w68 g69 hB70 => ?_)
          have hs71 := World.grownBy.size g69
          replace E := E.grown g69 (fun k hk => by injection hk with hk; subst hk; omega)
          replace hB4 := hB4.grown g69 (by intro h; injection h with h; omega)
          replace ho12 := ho12.stored g69 hB7 (by decide)
          replace hoa := hoa.stored g69 hB7 (by decide)
          replace ho52 := ho52.stored g69 hB7 (by decide)
          replace ho62r := ho62r.stored g69 hB7 (by decide) (by decide)
          replace hB7 := hB70
          refine Sq.nil ?_
          refine Eq.next ?_
          obtain ⟨pS, hpS⟩ := Strs.at (Own.row ho12) (i := i) (by omega) (by omega)
          refine Cq.drawS 10 (fun w' => Blk w' b28 26 [Value.int .i64 n21, v59, acv] ∧ At w' 9 v8 i pS (.string (xs11.getD i.toNat ByteArray.empty))) mixed (⟨hB7, hpS⟩) (fun w72 e73 hS => ?_)
          clear hS
          have hs74 := Below.size e73
          replace E := E.trans e73
          replace hB4 := hB4.ext e73
          replace ho12 := ho12.ext e73
          replace hB7 := hB7.ext e73
          replace hoa := hoa.ext e73
          replace ho52 := ho52.ext e73
          replace ho62r := ho62r.ext e73
          replace hpS := hpS.ext e73
          have E_w72 := E
          have hB4_w72 := hB4
          have ho12_w72 := ho12
          have hB7_w72 := hB7
          have hoa_w72 := hoa
          have ho52_w72 := ho52
          have ho62r_w72 := ho62r
          have hpS_w72 := hpS
          refine Gq.st 0 rfl (by kernel_rfl) rfl .plain rfl (fun _ _ _ h => h) ⟨hB7, hpS⟩ (fun w' x => Still.fieldAddr fld26_2 rfl) ?_
          refine Gq.st 1 rfl (by kernel_rfl) rfl .plain rfl (fun _ _ _ h => h) ⟨hB7, hpS⟩ (fun w' x => Still.loadB one24 rfl x.1 rfl) ?_
          refine Gq.st 2 rfl (by kernel_rfl) rfl .plain rfl (fun _ _ _ h => h) ⟨hB7, hpS⟩ (fun w' x => Still.move rfl) ?_
          refine Gq.st 3 rfl (by kernel_rfl) rfl .plain rfl (fun _ _ _ h => h) ⟨hB7, hpS⟩ (fun w' x => Still.move rfl) ?_
          refine Gq.st 4 rfl (by kernel_rfl) rfl .plain rfl (fun _ _ _ h => h) ⟨hB7, hpS⟩ (fun w' x => Still.at' sl91 hpS rfl rfl) ?_
          refine Gq.st 5 rfl (by kernel_rfl) rfl .plain rfl (fun _ _ _ h => h) ⟨hB7, hpS⟩ (fun w' x => Still.loadA one9 rfl (x.2).1) ?_
          refine Gq.st 6 rfl (by kernel_rfl) rfl .plain rfl (fun _ _ _ h => h) ⟨hB7, hpS⟩ (fun w' x => Still.idxStr und9 rfl rfl (by omega) (str_at (by omega))) ?_
          refine Gq.st 7 rfl (by kernel_rfl) rfl .plain rfl (fun _ _ _ h => h) ⟨hB7, hpS⟩ (fun w' x => Still.eql rfl rfl) ?_
          refine Gq.one 8 rfl (by kernel_rfl) ?_
          refine Sq.lit sl24 rfl rfl .plain rfl rfl (one_cons rfl one_nil) (fun b75 w76 e77 hlo78 ho79 _ => ?_)
          replace ho79 := ho79 w72.heap.size (Nat.le_refl _)
          have hs81 := Below.size e77
          replace E := E.trans e77
          replace hB4 := hB4.ext e77
          replace ho12 := ho12.ext e77
          replace hB7 := hB7.ext e77
          replace hoa := hoa.ext e77
          replace ho52 := ho52.ext e77
          replace ho62r := ho62r.ext e77
          replace hpS := hpS.ext e77
          refine Sq.nil ?_
          refine Eq.goes (fun _ => ⟨hB7, hpS⟩) ?_
          refine Gq.one 9 rfl (by kernel_rfl) ?_
          refine Sq.app sl24 hoa (by omega) (Own.row ho79) (one_cons rfl one_nil) (by first | omega | (simp; omega)) .plain rfl rfl rfl rfl (fun v82 w83 ho85 g84 => ?_)
          have hs86 := g84.size
          replace E := E.owned hoa g84 (by omega)
          replace hB4 := hB4.owned hoa g84 (by decide)
          replace ho12 := ho12.owned hoa g84 (by decide)
          replace hB7 := hB7.owned hoa g84 (by decide)
          replace ho52 := ho52.owned hoa g84 (by decide)
          replace ho62r := ho62r.owned hoa g84 (by decide) (by decide)
          replace hpS := hpS.owned hoa g84 (by decide)
          refine Sq.nil ?_
          refine Eq.goes (fun _ => ⟨hB7, hpS⟩) ?_
          refine Gq.one 10 rfl (by kernel_rfl) ?_
          refine Sq.fieldAddr fld26_2 .plain rfl rfl ?_
          refine Sq.nil ?_
          refine Eq.goes (fun h => absurd h (by decide)) ?_
          refine Gq.one 11 rfl (by kernel_rfl) ?_
          refine Sq.store one24 .plain rfl rfl (Row.one (Own.row ho85)) hB7 (by simp) (fun w87 g88 hB89 => ?_)
          have hs90 := World.grownBy.size g88
          replace E := E.grown g88 (fun k hk => by injection hk with hk; subst hk; omega)
          replace hB4 := hB4.grown g88 (by intro h; injection h with h; omega)
          replace ho12 := ho12.stored g88 hB7 (by decide)
          replace ho52 := ho52.stored g88 hB7 (by decide)
          replace ho62r := ho62r.stored g88 hB7 (by decide) (by decide)
          replace hpS := hpS.stored g88 hB7 (by decide)
          replace ho85 := ho85.stored g88 hB7 (by decide)
          replace hB7 := hB89
          refine Sq.nil ?_
          refine Eq.goes (fun h => absurd h (by decide)) ?_
          refine Gq.done (by kernel_rfl) ?_
          refine Eq.end ?_
          refine Eq.next ?_
          refine Cq.region ?_
          refine Sq.move .plain rfl rfl ?_
          refine Sq.add .plain rfl rfl rfl (by omega) ?_
          refine Sq.assign .plain rfl rfl ?_
          refine Sq.nil ?_
          refine Eq.round _ _ ⟨i + 1, _, _, _, _, rfl, by omega, hB7, OwnRows.now ho62r, Own.snocB ho85, ⟨by simp; omega, by simp; omega, all_app hxl.2.2 (by omega)⟩, E, hB4, ho12, rfl⟩ (by omega) (.cons rfl (.cons rfl (.cons rfl (.cons rfl (.cons rfl (.nil))))))
        · refine Sq.notF .plain rfl rfl ?_
          refine Sq.nil ?_
          refine Eq.next ?_
          refine Cq.thn rfl ?_
          refine Cq.seq ?_
          refine Cq.region ?_
          refine Sq.build st26 rfl rfl .plain rfl rfl one_nil rfl ?_
          refine Sq.storeAgg agg26 .plain rfl rfl (one_cons rfl (one_cons rfl (one_cons rfl one_nil))) hB4 rfl rfl (fun w91 g92 hB93 => ?_)
          have hs94 := World.grownBy.size g92
          replace E := E.grown g92 (fun k hk => by injection hk with hk; subst hk; omega)
          replace ho12 := ho12.stored g92 hB4 (by decide)
          replace hB7 := hB7.grown g92 (by intro h; injection h with h; omega)
          replace hor := hor.stored g92 hB4 (by decide) (by decide)
          replace hoa := hoa.stored g92 hB4 (by decide)
          replace ho52 := ho52.stored g92 hB4 (by decide)
          replace hB4 := hB93
          refine Sq.assign .plain rfl rfl ?_
          refine Sq.nil ?_
          refine Eq.next ?_
          refine Cq.ret ?_
          refine Eq.pastRet ?_
          refine Eq.outRet ?_
          refine Eq.pastRet ?_
          refine Eq.pastRet ?_
          refine Eq.outRet ?_
          refine Eq.pastRet ?_
          refine Eq.retCell2 rfl rfl agg26 hB4 rfl rfl ?_
          exact ⟨⟨_, _, zeroA, rfl, ⟨_, _, rfl, OwnRows.nil _ _ _ _ _, Own.nil _ _ _⟩, by refine ⟨?_, ?_, ?_, ?_⟩ <;> simp [zeroA]⟩, E⟩
    · refine Sq.nil ?_
      refine Eq.next ?_
      refine Cq.els rfl ?_
      refine Cq.exit ?_
      refine Eq.past ?_
      refine Eq.past ?_
      refine Eq.hit ?_
      refine Eq.next ?_
      refine Cq.seq ?_
      refine Cq.seq ?_
      refine Cq.region ?_
      refine Sq.loadAgg agg26 .plain rfl rfl hB7 rfl ?_
      have hd100 := hB4.lt
      have hd101 := hB7.lt
      refine Sq.call fn113 .plain rfl rfl (fmtA_c _ (⟨n21, xss, ys⟩ : A) _ _ (OwnRows.rows hor) (Own.row hoa)) ?_
      rintro _ w96 ⟨⟨s98, rfl, hs99⟩, e97⟩
      have hs102 := Below.size E
      have hs103 := Below.size e97
      replace E := E.trans e97
      replace hB4 := hB4.ext e97
      replace ho12 := ho12.ext e97
      replace hB7 := hB7.ext e97
      replace hor := hor.ext e97
      replace hoa := hoa.ext e97
      refine Sq.move .plain rfl rfl ?_
      refine Sq.neqS .plain rfl rfl rfl ?_
      refine Sq.part (fun c104 => ?_) (fun c104 => ?_)
      · refine Sq.nil ?_
        refine Eq.next ?_
        refine Cq.thn rfl ?_
        refine Cq.seq ?_
        refine Cq.region ?_
        refine Sq.build st26 rfl rfl .plain rfl rfl one_nil rfl ?_
        refine Sq.storeAgg agg26 .plain rfl rfl (one_cons rfl (one_cons rfl (one_cons rfl one_nil))) hB4 rfl rfl (fun w105 g106 hB107 => ?_)
        have hs108 := World.grownBy.size g106
        replace E := E.grown g106 (fun k hk => by injection hk with hk; subst hk; omega)
        replace ho12 := ho12.stored g106 hB4 (by decide)
        replace hB7 := hB7.grown g106 (by intro h; injection h with h; omega)
        replace hor := hor.stored g106 hB4 (by decide) (by decide)
        replace hoa := hoa.stored g106 hB4 (by decide)
        replace hB4 := hB107
        refine Sq.assign .plain rfl rfl ?_
        refine Sq.nil ?_
        refine Eq.next ?_
        refine Cq.ret ?_
        refine Eq.pastRet ?_
        refine Eq.retCell2 rfl rfl agg26 hB4 rfl rfl ?_
        exact ⟨⟨_, _, zeroA, rfl, ⟨_, _, rfl, OwnRows.nil _ _ _ _ _, Own.nil _ _ _⟩, by refine ⟨?_, ?_, ?_, ?_⟩ <;> simp [zeroA]⟩, E⟩
      · refine Sq.nil ?_
        refine Eq.next ?_
        refine Cq.els rfl ?_
        refine Cq.skip ?_
        refine Eq.next ?_
        refine Cq.seq ?_
        refine Cq.region ?_
        refine Sq.loadAgg agg26 .plain rfl rfl hB7 rfl ?_
        refine Sq.storeAgg agg26 .plain rfl rfl (one_cons rfl (one_cons (Rows.one (OwnRows.rows hor)) (one_cons (Row.one (Own.row hoa)) one_nil))) hB4 rfl rfl (fun w109 g110 hB111 => ?_)
        have hs112 := World.grownBy.size g110
        replace E := E.grown g110 (fun k hk => by injection hk with hk; subst hk; omega)
        replace ho12 := ho12.stored g110 hB4 (by decide)
        replace hB7 := hB7.grown g110 (by intro h; injection h with h; omega)
        replace hor := hor.stored g110 hB4 (by decide) (by decide)
        replace hoa := hoa.stored g110 hB4 (by decide)
        replace hB4 := hB111
        refine Sq.assign .plain rfl rfl ?_
        refine Sq.nil ?_
        refine Eq.next ?_
        refine Cq.ret ?_
        refine Eq.retCell2 rfl rfl agg26 hB4 rfl rfl ?_
        exact ⟨⟨_, _, ⟨n21, xss, ys⟩, rfl, ⟨_, _, rfl, OwnRows.now hor, hoa⟩, by refine ⟨?_, ?_, ?_, ?_⟩ <;> first | (show -1000 ≤ n21 ∧ n21 ≤ 1000; omega) | (show xss.length ≤ 200; omega) | (show ys.length ≤ 200; omega) | (intro row hr; have := hxl.2.2 row hr; omega)⟩, E⟩
  · refine Sq.notF .plain rfl rfl ?_
    refine Sq.nil ?_
    refine Eq.next ?_
    refine Cq.thn rfl ?_
    refine Cq.seq ?_
    refine Cq.region ?_
    refine Sq.build st26 rfl rfl .plain rfl rfl one_nil rfl ?_
    refine Sq.storeAgg agg26 .plain rfl rfl (one_cons rfl (one_cons rfl (one_cons rfl one_nil))) hB4 rfl rfl (fun w113 g114 hB115 => ?_)
    have hs116 := World.grownBy.size g114
    replace E := E.grown g114 (fun k hk => by injection hk with hk; subst hk; omega)
    replace ho12 := ho12.stored g114 hB4 (by decide)
    replace hB4 := hB115
    refine Sq.assign .plain rfl rfl ?_
    refine Sq.nil ?_
    refine Eq.next ?_
    refine Cq.ret ?_
    refine Eq.pastRet ?_
    refine Eq.retCell2 rfl rfl agg26 hB4 rfl rfl ?_
    exact ⟨⟨_, _, zeroA, rfl, ⟨_, _, rfl, OwnRows.nil _ _ _ _ _, Own.nil _ _ _⟩, by refine ⟨?_, ?_, ?_, ?_⟩ <;> simp [zeroA]⟩, E⟩

set_option maxRecDepth 100000 in
theorem l3Texts_c (w0 : World) : Ret Try.prog 86 #[] w0 (fun v w => (∃ xs : List ByteArray, Own w w0.heap.size 9 v (xs.map Value.string) ∧ xs.length = 12 ∧ ∀ x ∈ xs, x.size ≤ 60) ∧ Ext w0 w) := by
  have E := Ext.refl w0
  refine Ret.of (args := []) Try.func86 rfl rfl rfl ?_
  rintro _ rfl
  show Cq _ _ _ _ [] _
  refine Cq.seq ?_
  refine Cq.region ?_
  refine Sq.assign .plain rfl rfl ?_
  refine Sq.nil ?_
  refine Eq.next ?_
  refine Cq.seq ?_
  refine Cq.region ?_
  refine Sq.lit sl91 rfl rfl .plain rfl rfl (one_cons rfl (one_cons rfl (one_cons rfl (one_cons rfl (one_cons rfl (one_cons rfl (one_cons rfl (one_cons rfl (one_cons rfl (one_cons rfl (one_cons rfl (one_cons rfl one_nil)))))))))))) (fun b1 w2 e3 hlo4 ho5 _ => ?_)
  replace ho5 := ho5 w0.heap.size (Nat.le_refl _)
  have hs7 := Below.size e3
  replace E := E.trans e3
  refine Sq.assign .plain rfl rfl ?_
  refine Sq.nil ?_
  refine Eq.next ?_
  refine Cq.ret ?_
  refine Eq.ret1 rfl rfl ?_
  exact ⟨⟨([(⟨#[97, 98, 32, 43, 49, 44, 48, 32, 45, 49, 44, 49]⟩ : ByteArray), (⟨#[97, 98, 32, 43, 48, 44, 49, 32, 43, 50, 44, 49, 32, 45, 50, 44, 50]⟩ : ByteArray), (⟨#[97, 99, 32, 43, 49, 44, 50, 32, 43, 49, 44, 50, 32, 45, 50, 44, 50]⟩ : ByteArray), (⟨#[98, 32, 43, 49, 32, 45, 49]⟩ : ByteArray), (⟨#[97, 98, 99, 32, 43, 49, 44, 48, 44, 50, 32, 43, 50, 44, 48, 44, 49, 32, 45, 50, 44, 50, 44, 50]⟩ : ByteArray), (⟨#[45, 32, 43]⟩ : ByteArray), (⟨#[45, 32, 45]⟩ : ByteArray), (⟨#[97, 32, 43, 49, 32, 45, 48]⟩ : ByteArray), (⟨#[97, 98, 32, 43, 48, 44, 49, 32, 45, 48, 44, 49]⟩ : ByteArray), (⟨#[98, 99, 32, 43, 49, 44, 50, 32, 43, 50, 44, 48, 32, 45, 50, 44, 50]⟩ : ByteArray), (⟨#[97, 98, 32, 43, 49, 44, 50, 32, 45, 49, 44, 51, 32, 43, 52, 44, 50, 32, 45, 49, 44, 51, 32, 43, 52, 44, 50]⟩ : ByteArray), (⟨#[97, 98, 99, 32, 43, 48, 44, 49, 44, 48, 32, 43, 48, 44, 49, 44, 50, 32, 45, 50, 44, 50, 44, 50]⟩ : ByteArray)] : List ByteArray), Own.mono ho5 (by omega), rfl, all_size (by decide)⟩, E⟩

set_option maxRecDepth 100000 in
theorem open_c (w0 : World) (e : TypeId) (a0 : Option Addr) (c0 : Nat) (cs : List UInt8) (hc : Bytes w0 e (.slice a0 cs.length c0) cs) (hcap : cs.length ≤ c0) : Ret Try.prog 41 #[Value.slice a0 cs.length c0] w0 (fun v w => (∃ rb bv bs, v = .pointer (some ⟨rb, 0, none⟩) ∧ w0.heap.size ≤ rb ∧ Blk w rb 88 [bv, .int .i64 0] ∧ Src w e bv bs rb ∧ bs.length ≤ 2000) ∧ Ext w0 w) := by
  have E := Ext.refl w0
  refine Ret.of (args := [Value.slice a0 cs.length c0]) Try.func41 rfl rfl rfl ?_
  rintro _ rfl
  show Cq _ _ _ _ [(0, Value.slice a0 cs.length c0)] _
  refine Cq.seq ?_
  refine Cq.region ?_
  refine Sq.assign .plain rfl rfl ?_
  refine Sq.nil ?_
  refine Eq.next ?_
  refine Cq.seq ?_
  refine Cq.seq ?_
  refine Cq.region ?_
  refine Sq.move .plain rfl rfl ?_
  refine Sq.lenBytes (hc.ext E) .plain rfl und22 rfl ?_
  refine Sq.gtr .plain rfl rfl rfl ?_
  refine Sq.part (fun c1 => ?_) (fun c1 => ?_)
  · refine Sq.nil ?_
    refine Eq.next ?_
    refine Cq.thn rfl ?_
    refine Cq.region ?_
    refine Sq.move .plain rfl rfl ?_
    refine Sq.cutBytes sl22 hc hcap (by omega) .plain rfl rfl rfl (fun bv0 hbv0 => ?_)
    refine Sq.assign .plain rfl rfl ?_
    refine Sq.nil ?_
    refine Eq.next ?_
    refine Cq.seq ?_
    refine Cq.region ?_
    refine Sq.move .plain rfl rfl ?_
    refine Sq.build st88 rfl rfl .plain rfl rfl (one_cons (Row.one (hbv0.ext E)) one_nil) rfl ?_
    refine Sq.box .plain rfl rfl (fun b2 w3 e4 hB5 hlo6 => ?_)
    have hd7 := Nat.le_trans (Below.size E) hlo6
    have hs8 := Below.size e4
    replace E := E.trans e4
    refine Sq.assign .plain rfl rfl ?_
    refine Sq.nil ?_
    refine Eq.next ?_
    refine Cq.ret ?_
    refine Eq.ret1 rfl rfl ?_
    exact ⟨⟨_, _, (cs.take (2000 : Int).toNat), rfl, by omega, hB5, Src.of hbv0 E (by omega), by rw [List.length_take]; omega⟩, E⟩
  · refine Sq.nil ?_
    refine Eq.next ?_
    refine Cq.els rfl ?_
    refine Cq.skip ?_
    refine Eq.next ?_
    refine Cq.seq ?_
    refine Cq.region ?_
    refine Sq.move .plain rfl rfl ?_
    refine Sq.build st88 rfl rfl .plain rfl rfl (one_cons (Row.one (hc.ext E)) one_nil) rfl ?_
    refine Sq.box .plain rfl rfl (fun b9 w10 e11 hB12 hlo13 => ?_)
    have hd14 := Nat.le_trans (Below.size E) hlo13
    have hs15 := Below.size e11
    replace E := E.trans e11
    refine Sq.assign .plain rfl rfl ?_
    refine Sq.nil ?_
    refine Eq.next ?_
    refine Cq.ret ?_
    refine Eq.ret1 rfl rfl ?_
    exact ⟨⟨_, _, cs, rfl, by omega, hB12, Src.of hc E (by omega), by omega⟩, E⟩

set_option maxRecDepth 100000 in
theorem l3Draw_c (w0 : World) (rb : Nat) (bv : Value) (p : Int) (bs : List UInt8) (e0 : TypeId) (hR : Blk w0 rb 88 [bv, .int .i64 p]) (hb : Src w0 e0 bv bs rb) (hbl : bs.length ≤ 2000) (hp : 0 ≤ p ∧ p ≤ 500000000) : Ret Try.prog 42 #[Value.pointer (some ⟨rb, 0, none⟩)] w0 (fun v w => (∃ p', (p ≤ p' ∧ p' ≤ p + 300) ∧ Blk w rb 88 [bv, .int .i64 p'] ∧ w0.grownBy w (some rb)) ∧ ∃ a, RowsA w v a ∧ Small 200 a) := by
  have G := World.grownBy.refl w0 (some rb)
  have hlt := hR.lt
  refine Ret.of (args := [Value.pointer (some ⟨rb, 0, none⟩)]) Try.func42 rfl rfl rfl ?_
  rintro _ rfl
  show Cq _ _ _ _ [(0, Value.pointer (some ⟨rb, 0, none⟩))] _
  refine Cq.seq ?_
  refine Cq.region ?_
  refine Sq.alloc zero26 .plain rfl (fun b1 w2 e3 hB4 hlo5 => ?_)
  have hd6 := Nat.lt_of_lt_of_le hR.lt hlo5
  have hd7 := Nat.le_trans (World.grownBy.size G) hlo5
  have hs8 := Below.size e3
  replace hR := hR.ext e3
  replace G := grown_trans G (Ext.to_grown e3 _)
  refine Sq.nil ?_
  refine Eq.next ?_
  refine Cq.seq ?_
  refine Cq.seq ?_
  refine Cq.region ?_
  refine Sq.move .plain rfl rfl ?_
  refine Sq.call fn43 .plain rfl rfl (pick_c _ _ _ _ _ _ hR (hb.go G) hbl (by omega) 3 (by omega)) ?_
  rintro _ w10 ⟨⟨p11, hp14, hB13, g12⟩, ⟨k15, rfl, hk16⟩⟩
  have hs17 := World.grownBy.size g12
  have hs18 := World.grownBy.size G
  have hs19 := World.grownBy.size g12
  replace G := grown_trans G g12
  replace hB4 := hB4.grown g12 (by intro h; injection h with h; omega)
  replace hR := hB13
  refine Sq.eql .plain rfl rfl rfl ?_
  refine Sq.part (fun c20 => ?_) (fun c20 => ?_)
  · refine Sq.nil ?_
    refine Eq.next ?_
    refine Cq.thn rfl ?_
    refine Cq.seq ?_
    refine Cq.region ?_
    refine Sq.move .plain rfl rfl ?_
    have hd28 := hR.lt
    have hd29 := hB4.lt
    refine Sq.call fn86 .plain rfl rfl (l3Texts_c _) ?_
    rintro v21 w22 ⟨⟨xs24, ho25, hl26, hxs27⟩, e23⟩
    have hs30 := World.grownBy.size G
    have hs31 := Below.size e23
    replace hR := hR.ext e23
    replace G := grown_trans G (Ext.to_grown e23 _)
    replace hB4 := hB4.ext e23
    refine Sq.call fn85 .plain rfl rfl (of_c _ _ _ _ _ _ hR (hb.go G) hbl (by omega) _ xs24 (Own.row ho25) (by first | omega | simp)) ?_
    rintro _ w33 ⟨⟨p34, hp37, hB36, g35⟩, ⟨s38, rfl, hm39⟩⟩
    have hs40 := World.grownBy.size g35
    have hs41 := World.grownBy.size G
    have hs42 := World.grownBy.size g35
    replace G := grown_trans G g35
    replace hB4 := hB4.grown g35 (by intro h; injection h with h; omega)
    replace ho25 := ho25.stored g35 hR (by decide)
    replace hR := hB36
    have hd54 := hR.lt
    have hd55 := hB4.lt
    refine Sq.call fn84 .plain rfl rfl (parseA_c s38 (by have := hxs27 _ hm39; omega) _) ?_
    rintro _ w44 ⟨⟨u46, ok47, a48, rfl, ⟨nx49, ac50, rfl, hn51, ha52⟩, hsm53⟩, e45⟩
    have hs56 := World.grownBy.size G
    have hs57 := Below.size e45
    replace hR := hR.ext e45
    replace G := grown_trans G (Ext.to_grown e45 _)
    replace hB4 := hB4.ext e45
    replace ho25 := ho25.ext e45
    refine Sq.move .plain rfl rfl ?_
    refine Sq.extract .plain rfl rfl rfl ?_
    refine Sq.extract .plain rfl rfl rfl ?_
    refine Sq.alloc zero26 .plain rfl (fun b58 w59 e60 hB61 hlo62 => ?_)
    have hd63 := Nat.lt_of_lt_of_le hR.lt hlo62
    have hd64 := Nat.le_trans (World.grownBy.size G) hlo62
    have hd65 := Nat.lt_of_lt_of_le hB4.lt hlo62
    have hs66 := Below.size e60
    replace hR := hR.ext e60
    replace G := grown_trans G (Ext.to_grown e60 _)
    replace hB4 := hB4.ext e60
    replace ho25 := ho25.ext e60
    replace hn51 := hn51.ext e60
    replace ha52 := ha52.ext e60
    refine Sq.storeAgg agg26 .plain rfl rfl (one_cons rfl (one_cons (Rows.one (OwnRows.rows hn51)) (one_cons (Row.one (Own.row ha52)) one_nil))) hB61 rfl rfl (fun w67 g68 hB69 => ?_)
    have hs70 := World.grownBy.size g68
    replace hR := hR.grown g68 (by intro h; injection h with h; omega)
    replace G := grown_far G g68 (fun k hk => by injection hk with hk; subst hk; omega)
    replace hB4 := hB4.grown g68 (by intro h; injection h with h; omega)
    replace ho25 := ho25.stored g68 hB61 (by decide)
    replace hn51 := hn51.stored g68 hB61 (by decide) (by decide)
    replace ha52 := ha52.stored g68 hB61 (by decide)
    replace hB61 := hB69
    refine Sq.assign .plain rfl rfl ?_
    refine Sq.nil ?_
    refine Eq.next ?_
    refine Cq.seq ?_
    refine Cq.region ?_
    refine Sq.move .plain rfl rfl ?_
    refine Sq.partB (fun c71 => ?_) (fun c71 => ?_)
    · refine Sq.nil ?_
      refine Eq.next ?_
      refine Cq.thn rfl ?_
      refine Cq.seq ?_
      refine Cq.region ?_
      refine Sq.loadAgg agg26 .plain rfl rfl hB61 rfl ?_
      refine Sq.storeAgg agg26 .plain rfl rfl (one_cons rfl (one_cons (Rows.one (OwnRows.rows hn51)) (one_cons (Row.one (Own.row ha52)) one_nil))) hB4 rfl rfl (fun w72 g73 hB74 => ?_)
      have hs75 := World.grownBy.size g73
      replace hR := hR.grown g73 (by intro h; injection h with h; omega)
      replace G := grown_far G g73 (fun k hk => by injection hk with hk; subst hk; omega)
      replace ho25 := ho25.stored g73 hB4 (by decide)
      replace hn51 := hn51.stored g73 hB4 (by decide) (by decide)
      replace ha52 := ha52.stored g73 hB4 (by decide)
      replace hB61 := hB61.grown g73 (by intro h; injection h with h; omega)
      replace hB4 := hB74
      refine Sq.nil ?_
      refine Eq.next ?_
      refine Cq.ret ?_
      refine Eq.pastRet ?_
      refine Eq.retCell rfl rfl agg26 hB4 rfl ?_
      exact ⟨⟨_, by omega, hR, G⟩, _, ⟨_, _, rfl, (OwnRows.rows hn51), (Own.row ha52)⟩, by first | exact (Small.of hsm53).mono (by omega) | exact Small.mono hsm53 (by omega) | exact (Small.of hsm53).mono (by omega) | exact Small.mono hsm53 (by omega)⟩
    · refine Sq.nil ?_
      refine Eq.next ?_
      refine Cq.els rfl ?_
      refine Cq.skip ?_
      refine Eq.next ?_
      refine Cq.seq ?_
      refine Cq.region ?_
      refine Sq.move .plain rfl rfl ?_
      refine Sq.move .plain rfl rfl ?_
      refine Sq.lit sl56 rfl rfl .plain rfl rfl (one_cons rfl (one_cons rfl (one_cons rfl (one_cons rfl (one_cons rfl (one_cons rfl (one_cons rfl one_nil))))))) (fun b76 w77 e78 hlo79 ho80 _ => ?_)
      replace ho80 := ho80 w67.heap.size (Nat.le_refl _)
      have hs82 := Below.size e78
      replace hR := hR.ext e78
      replace G := grown_trans G (Ext.to_grown e78 _)
      replace hB4 := hB4.ext e78
      replace ho25 := ho25.ext e78
      replace hn51 := hn51.ext e78
      replace ha52 := ha52.ext e78
      replace hB61 := hB61.ext e78
      refine Sq.call fn47 .plain rfl rfl (num_c _ _ _ _ _ _ hR (hb.go G) hbl (by omega) _ [3, 6, 7, 5, 1, 0, 2] (Own.row ho80) (by simp)) ?_
      rintro _ w84 ⟨⟨p85, hp88, hB87, g86⟩, ⟨k89, rfl, hm90⟩⟩
      have hs91 := World.grownBy.size g86
      have hs92 := World.grownBy.size G
      have hs93 := World.grownBy.size g86
      replace G := grown_trans G g86
      replace hB4 := hB4.grown g86 (by intro h; injection h with h; omega)
      replace ho25 := ho25.stored g86 hR (by decide)
      replace hn51 := hn51.stored g86 hR (by decide) (by decide)
      replace ha52 := ha52.stored g86 hR (by decide)
      replace hB61 := hB61.grown g86 (by intro h; injection h with h; omega)
      replace ho80 := ho80.stored g86 hR (by decide)
      replace hR := hB87
      simp only [List.mem_cons, List.not_mem_nil, or_false] at hm90
      refine Sq.call fn87 .plain rfl rfl (l3Over_c _ _ _ _ _ _ hR (hb.go G) hbl (by omega) k89 (by omega)) ?_
      rintro _ w95 ⟨⟨p96, hp99, hB98, g97⟩, ⟨a100, ⟨nx101, ac102, rfl, hn103, ha104⟩, hv105, hal106⟩⟩
      have hs107 := World.grownBy.size g97
      have hs108 := World.grownBy.size G
      have hs109 := World.grownBy.size g97
      replace G := grown_trans G g97
      replace hB4 := hB4.grown g97 (by intro h; injection h with h; omega)
      replace ho25 := ho25.stored g97 hR (by decide)
      replace hn51 := hn51.stored g97 hR (by decide) (by decide)
      replace ha52 := ha52.stored g97 hR (by decide)
      replace hB61 := hB61.grown g97 (by intro h; injection h with h; omega)
      replace ho80 := ho80.stored g97 hR (by decide)
      replace hR := hB98
      refine Sq.storeAgg agg26 .plain rfl rfl (one_cons rfl (one_cons (Rows.one (OwnRows.rows hn103)) (one_cons (Row.one (Own.row ha104)) one_nil))) hB4 rfl rfl (fun w110 g111 hB112 => ?_)
      have hs113 := World.grownBy.size g111
      replace hR := hR.grown g111 (by intro h; injection h with h; omega)
      replace G := grown_far G g111 (fun k hk => by injection hk with hk; subst hk; omega)
      replace ho25 := ho25.stored g111 hB4 (by decide)
      replace hn51 := hn51.stored g111 hB4 (by decide) (by decide)
      replace ha52 := ha52.stored g111 hB4 (by decide)
      replace hB61 := hB61.grown g111 (by intro h; injection h with h; omega)
      replace ho80 := ho80.stored g111 hB4 (by decide)
      replace hn103 := hn103.stored g111 hB4 (by decide) (by decide)
      replace ha104 := ha104.stored g111 hB4 (by decide)
      replace hB4 := hB112
      refine Sq.nil ?_
      refine Eq.next ?_
      refine Cq.ret ?_
      refine Eq.retCell rfl rfl agg26 hB4 rfl ?_
      exact ⟨⟨_, by omega, hR, G⟩, _, ⟨_, _, rfl, (OwnRows.rows hn103), (Own.row ha104)⟩, by first | exact (Small.of hv105).mono (by omega) | exact Small.mono hv105 (by omega) | exact (Small.of hsm53).mono (by omega) | exact Small.mono hsm53 (by omega) | exact (Small.of hsm53).mono (by omega) | exact Small.mono hsm53 (by omega)⟩
  · refine Sq.nil ?_
    refine Eq.next ?_
    refine Cq.els rfl ?_
    refine Cq.skip ?_
    refine Eq.next ?_
    refine Cq.seq ?_
    refine Cq.region ?_
    refine Sq.move .plain rfl rfl ?_
    refine Sq.move .plain rfl rfl ?_
    refine Sq.lit sl56 rfl rfl .plain rfl rfl (one_cons rfl (one_cons rfl (one_cons rfl (one_cons rfl (one_cons rfl (one_cons rfl (one_cons rfl one_nil))))))) (fun b114 w115 e116 hlo117 ho118 _ => ?_)
    replace ho118 := ho118 w10.heap.size (Nat.le_refl _)
    have hs120 := Below.size e116
    replace hR := hR.ext e116
    replace G := grown_trans G (Ext.to_grown e116 _)
    replace hB4 := hB4.ext e116
    refine Sq.call fn47 .plain rfl rfl (num_c _ _ _ _ _ _ hR (hb.go G) hbl (by omega) _ [3, 6, 7, 5, 1, 0, 2] (Own.row ho118) (by simp)) ?_
    rintro _ w122 ⟨⟨p123, hp126, hB125, g124⟩, ⟨k127, rfl, hm128⟩⟩
    have hs129 := World.grownBy.size g124
    have hs130 := World.grownBy.size G
    have hs131 := World.grownBy.size g124
    replace G := grown_trans G g124
    replace hB4 := hB4.grown g124 (by intro h; injection h with h; omega)
    replace ho118 := ho118.stored g124 hR (by decide)
    replace hR := hB125
    simp only [List.mem_cons, List.not_mem_nil, or_false] at hm128
    refine Sq.call fn87 .plain rfl rfl (l3Over_c _ _ _ _ _ _ hR (hb.go G) hbl (by omega) k127 (by omega)) ?_
    rintro _ w133 ⟨⟨p134, hp137, hB136, g135⟩, ⟨a138, ⟨nx139, ac140, rfl, hn141, ha142⟩, hv143, hal144⟩⟩
    have hs145 := World.grownBy.size g135
    have hs146 := World.grownBy.size G
    have hs147 := World.grownBy.size g135
    replace G := grown_trans G g135
    replace hB4 := hB4.grown g135 (by intro h; injection h with h; omega)
    replace ho118 := ho118.stored g135 hR (by decide)
    replace hR := hB136
    refine Sq.storeAgg agg26 .plain rfl rfl (one_cons rfl (one_cons (Rows.one (OwnRows.rows hn141)) (one_cons (Row.one (Own.row ha142)) one_nil))) hB4 rfl rfl (fun w148 g149 hB150 => ?_)
    have hs151 := World.grownBy.size g149
    replace hR := hR.grown g149 (by intro h; injection h with h; omega)
    replace G := grown_far G g149 (fun k hk => by injection hk with hk; subst hk; omega)
    replace ho118 := ho118.stored g149 hB4 (by decide)
    replace hn141 := hn141.stored g149 hB4 (by decide) (by decide)
    replace ha142 := ha142.stored g149 hB4 (by decide)
    replace hB4 := hB150
    refine Sq.nil ?_
    refine Eq.next ?_
    refine Cq.ret ?_
    refine Eq.retCell rfl rfl agg26 hB4 rfl ?_
    exact ⟨⟨_, by omega, hR, G⟩, _, ⟨_, _, rfl, (OwnRows.rows hn141), (Own.row ha142)⟩, by first | exact (Small.of hv143).mono (by omega) | exact Small.mono hv143 (by omega) | exact (Small.of hv105).mono (by omega) | exact Small.mono hv105 (by omega) | exact (Small.of hsm53).mono (by omega) | exact Small.mono hsm53 (by omega) | exact (Small.of hsm53).mono (by omega) | exact Small.mono hsm53 (by omega)⟩

end Go.Proofs.Ytdejmfkpohgamaa
