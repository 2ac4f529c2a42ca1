/-
  The texts of this proof, joined (wip/merge.py): the calculus of slots, plain mathematics, walks.
-/
import Derived.Test.YtdkdpmmfebdeaaaGc2
set_option linter.unusedSimpArgs false
set_option linter.unusedVariables false
namespace Go.Proofs.Ytdkdpmmfebdeaaa
open Go.RowKit
set_option maxRecDepth 100000 in
theorem trim1_c (w0 : World) (q x : Int) (a : A) (bt b : Nat) (xs : List Int) (hB : Blk w0 bt 60 [Value.slice (some ⟨b, 0, none⟩) a.next.length a.next.length]) (hT : Blk w0 b 64 (xs.map (Value.int .i64))) (hTab : Tab a xs) (hq : 0 ≤ q ∧ q < a.next.length) (hx : 0 ≤ x ∧ x < 6) : Ret Try.prog 80 #[Value.int .i64 q, Value.int .i64 x, Value.pointer (some ⟨bt, 0, none⟩)] w0 (fun v w => v = .int .i64 (goA a q x) ∧ w0 = w) := by
  refine Ret.of (args := [Value.int .i64 q, Value.int .i64 x, Value.pointer (some ⟨bt, 0, none⟩)]) Try.func80 rfl rfl rfl ?_
  rintro _ rfl
  show Cq _ _ _ _ [(0, Value.int .i64 q), (1, Value.int .i64 x), (2, Value.pointer (some ⟨bt, 0, none⟩))] _
  refine Cq.seq ?_
  refine Cq.region ?_
  refine Sq.assign .plain rfl rfl ?_
  refine Sq.nil ?_
  refine Eq.next ?_
  refine Cq.seq ?_
  refine Cq.region ?_
  refine Sq.loadB one60 .plain rfl rfl hB rfl ?_
  refine Sq.move .plain rfl rfl ?_
  refine Sq.move .plain rfl rfl ?_
  refine Sq.val .plain rfl rfl (Still.ixS slk60 rfl rfl (by omega) (by omega)) ?_
  refine Sq.val .plain rfl rfl (Still.ixA ar64 rfl rfl (by omega) (by omega)) ?_
  refine Sq.val .plain rfl rfl (Still.loadB one3 rfl hT (by rw [Nat.zero_add, List.getElem?_map, hTab.2 q x (by first | omega | assumption) (by omega)]; rfl)) ?_
  refine Sq.assign .plain rfl rfl ?_
  refine Sq.nil ?_
  refine Eq.next ?_
  refine Cq.ret ?_
  refine Eq.ret1 rfl rfl ?_
  exact ⟨rfl, rfl⟩
set_option maxRecDepth 100000 in
theorem trim_c (w0 : World) (a : A) (nx ac : Value) (hnx : Rows w0 52 3 nx a.next) (hac : Bools w0 4 ac a.acc) (hv : validA a = true) : Ret Try.prog 45 #[Value.agg #[Value.int .i64 a.al, nx, ac]] w0 (fun v w => OwnA w w0.heap.size v (trim a) ∧ Ext w0 w) := by
  have E := Ext.refl w0
  have hal := (validA_spec.1 hv).1
  refine Ret.of (args := [Value.agg #[Value.int .i64 a.al, nx, ac]]) Try.func45 rfl rfl rfl ?_
  rintro _ rfl
  show Cq _ _ _ _ [(0, Value.agg #[Value.int .i64 a.al, nx, ac])] _
  refine Cq.seq ?_
  refine Cq.region ?_
  refine Sq.box .plain rfl rfl (fun b1 w2 e3 hB4 hlo5 => ?_)
  have hd6 := Nat.le_trans (Below.size E) hlo5
  have hs7 := Below.size e3
  replace E := E.trans e3
  refine Sq.alloc zero27 .plain rfl (fun b8 w9 e10 hB11 hlo12 => ?_)
  have hd13 := Nat.le_trans (Below.size E) hlo12
  have hd14 := Nat.lt_of_lt_of_le hB4.lt hlo12
  have hs15 := Below.size e10
  replace E := E.trans e10
  replace hB4 := hB4.ext e10
  refine Sq.nil ?_
  refine Eq.next ?_
  refine Cq.seq ?_
  refine Cq.region ?_
  refine Sq.loadAgg agg27 .plain rfl rfl hB4 rfl ?_
  have hd24 := hB4.lt
  have hd25 := hB11.lt
  refine Sq.call fn56 .plain rfl rfl (tableOf_c _ a _ _ (hnx.ext E) (hac.ext E) hv) ?_
  rintro _ w17 ⟨⟨b19, xs20, rfl, hlo21, hT22, hTab23⟩, e18⟩
  have hs26 := Below.size E
  have hs27 := Below.size e18
  replace E := E.trans e18
  replace hB4 := hB4.ext e18
  replace hB11 := hB11.ext e18
  refine Sq.alloc1 zero60 rfl .plain rfl (fun b28 w29 e30 hB31 hlo32 => ?_)
  have hd33 := Nat.le_trans (Below.size E) hlo32
  have hd34 := Nat.lt_of_lt_of_le hB4.lt hlo32
  have hd35 := Nat.lt_of_lt_of_le hB11.lt hlo32
  have hd36 := Nat.lt_of_lt_of_le hT22.lt hlo32
  have hs37 := Below.size e30
  replace E := E.trans e30
  replace hB4 := hB4.ext e30
  replace hB11 := hB11.ext e30
  replace hT22 := hT22.ext e30
  refine Sq.store one60 .plain rfl rfl rfl hB31 (by simp) (fun w38 g39 hB40 => ?_)
  have hs41 := World.grownBy.size g39
  replace E := E.grown g39 (fun k hk => by injection hk with hk; subst hk; omega)
  replace hB4 := hB4.grown g39 (by intro h; injection h with h; omega)
  replace hB11 := hB11.grown g39 (by intro h; injection h with h; omega)
  replace hT22 := hT22.grown g39 (by intro h; injection h with h; omega)
  replace hB31 := hB40
  refine Sq.nil ?_
  refine Eq.next ?_
  refine Cq.seq ?_
  refine Cq.drawS 13 (fun w' => Blk w' b1 27 [Value.int .i64 a.al, nx, ac] ∧ Blk w' b28 60 [Value.slice (some ⟨b19, 0, none⟩) a.next.length a.next.length]) mixed (⟨hB4, hB31⟩) (fun w42 e43 hS => ?_)
  clear hS
  have hs44 := Below.size e43
  replace E := E.trans e43
  replace hB4 := hB4.ext e43
  replace hB11 := hB11.ext e43
  replace hT22 := hT22.ext e43
  replace hB31 := hB31.ext e43
  refine Gq.st 0 rfl (by kernel_rfl) rfl .plain rfl (fun _ _ _ h => h) ⟨hB4, hB31⟩ (fun w' x => Still.fieldAddr fld27_0 rfl) ?_
  refine Gq.st 1 rfl (by kernel_rfl) rfl .plain rfl (fun _ _ _ h => h) ⟨hB4, hB31⟩ (fun w' x => Still.loadB one3 rfl x.1 rfl) ?_
  refine Gq.st 3 rfl (by kernel_rfl) rfl .plain rfl (fun _ _ _ h => h) ⟨hB4, hB31⟩ (fun w' x => Still.loadB one60 rfl x.2 rfl) ?_
  refine Gq.st 4 rfl (by kernel_rfl) rfl .plain rfl (fun _ _ _ h => h) ⟨hB4, hB31⟩ (fun w' x => Still.len und60 rfl) ?_
  refine Gq.st 5 rfl (by kernel_rfl) rfl .plain rfl (fun _ _ _ h => h) ⟨hB4, hB31⟩ (fun w' x => Still.makeFunc rfl) ?_
  refine Gq.one 2 rfl (by kernel_rfl) ?_
  have hd49 := hB4.lt
  have hd50 := hB11.lt
  have hd51 := hT22.lt
  have hd52 := hB31.lt
  refine Sq.call fn58 .plain rfl rfl (lettersOf_c a.al (by omega) _) ?_
  rintro v45 w46 ⟨hl48, e47⟩
  have hs53 := Below.size E
  have hs54 := Below.size e47
  replace E := E.trans e47
  replace hB4 := hB4.ext e47
  replace hB11 := hB11.ext e47
  replace hT22 := hT22.ext e47
  replace hB31 := hB31.ext e47
  refine Sq.nil ?_
  refine Eq.goes (fun _ => ⟨hB4, hB31⟩) ?_
  refine Gq.one 6 rfl (by kernel_rfl) ?_
  have hd63 := hB4.lt
  have hd64 := hB11.lt
  have hd65 := hT22.lt
  have hd66 := hB31.lt
  have hvs := validA_spec.1 hv
  have hlet := letters_len6 a.al
  have htl := trim_len hv
  refine Sq.call fn57 .plain rfl rfl (numbered_c _ (goA a) 0 (letters a.al) _ _ (List.length a.next : Int) (fun q => 0 ≤ q ∧ q < (a.next.length : Int)) (by omega) (Own.row hl48) (by omega) (fun x hx => ⟨(mem_letters hx).1, (mem_letters hx).2.1⟩) (zero_in hv) (fun q hq x hx => goA_in hv hq ⟨(mem_letters hx).1, (mem_letters hx).2.1⟩) (fun i => Nat.le_trans (trim_bfs_len hv i) (by omega)) ⟨80, _, [Value.pointer (some ⟨b28, 0, none⟩)], rfl, fn80, fun w q x hx hq hxx => (trim1_c w q x a _ _ _ (hB31.ext hx) (hT22.ext hx) hTab23 hq hxx).mono fun v w' h => ⟨h.1, h.2 ▸ Ext.refl w⟩⟩) ?_
  rintro _ w56 ⟨⟨nv58, xv59, rfl, hn60, hx61⟩, e57⟩
  have hs67 := Below.size E
  have hs68 := Below.size e57
  replace E := E.trans e57
  replace hB4 := hB4.ext e57
  replace hB11 := hB11.ext e57
  replace hT22 := hT22.ext e57
  replace hB31 := hB31.ext e57
  have hl62 : ((((ord (goA a) 0 (letters a.al)).length : Nat) : Int) ≤ (List.length a.next : Int)) := by omega
  rw [if_pos hl62] at hn60 hx61
  refine Sq.nil ?_
  refine Eq.goes (fun _ => ⟨hB4, hB31⟩) ?_
  refine Gq.st 7 rfl (by kernel_rfl) rfl .plain rfl (fun _ _ _ h => h) ⟨hB4, hB31⟩ (fun w' x => Still.move rfl) ?_
  refine Gq.st 8 rfl (by kernel_rfl) rfl .plain rfl (fun _ _ _ h => h) ⟨hB4, hB31⟩ (fun w' x => Still.extract rfl rfl) ?_
  refine Gq.st 9 rfl (by kernel_rfl) rfl .plain rfl (fun _ _ _ h => h) ⟨hB4, hB31⟩ (fun w' x => Still.extract rfl rfl) ?_
  refine Gq.st 10 rfl (by kernel_rfl) rfl .plain rfl (fun _ _ _ h => h) ⟨hB4, hB31⟩ (fun w' x => Still.extract rfl rfl) ?_
  refine Gq.isT (hl62) ?_
  refine Gq.st 11 rfl (by kernel_rfl) rfl .plain rfl (fun _ _ _ h => h) ⟨hB4, hB31⟩ (fun w' x => Still.assign rfl) ?_
  refine Gq.st 12 rfl (by kernel_rfl) rfl .plain rfl (fun _ _ _ h => h) ⟨hB4, hB31⟩ (fun w' x => Still.assign rfl) ?_
  refine Gq.one 13 rfl (by kernel_rfl) ?_
  refine Sq.assign .plain rfl rfl ?_
  refine Sq.nil ?_
  refine Eq.goes (fun h => absurd h (by decide)) ?_
  refine Gq.done (by kernel_rfl) ?_
  refine Eq.next ?_
  refine Cq.seq ?_
  refine Cq.region ?_
  refine Sq.fieldAddr fld27_0 .plain rfl rfl ?_
  refine Sq.loadB one3 .plain rfl rfl hB4 rfl ?_
  refine Sq.move .plain rfl rfl ?_
  refine Sq.build st27 rfl rfl .plain rfl rfl (one_cons rfl (one_cons (Rows.one (OwnRows.rows hx61)) one_nil)) rfl ?_
  refine Sq.alloc zero27 .plain rfl (fun b69 w70 e71 hB72 hlo73 => ?_)
  have hd74 := Nat.le_trans (Below.size E) hlo73
  have hd75 := Nat.lt_of_lt_of_le hB4.lt hlo73
  have hd76 := Nat.lt_of_lt_of_le hB11.lt hlo73
  have hd77 := Nat.lt_of_lt_of_le hT22.lt hlo73
  have hd78 := Nat.lt_of_lt_of_le hB31.lt hlo73
  have hs79 := Below.size e71
  replace E := E.trans e71
  replace hB4 := hB4.ext e71
  replace hB11 := hB11.ext e71
  replace hn60 := hn60.ext e71
  replace hx61 := hx61.ext e71
  refine Sq.storeAgg agg27 .plain rfl rfl (one_cons rfl (one_cons (Rows.one (OwnRows.rows hx61)) (one_cons rfl one_nil))) hB72 rfl rfl (fun w80 g81 hB82 => ?_)
  have hs83 := World.grownBy.size g81
  replace E := E.grown g81 (fun k hk => by injection hk with hk; subst hk; omega)
  replace hB4 := hB4.grown g81 (by intro h; injection h with h; omega)
  replace hB11 := hB11.grown g81 (by intro h; injection h with h; omega)
  replace hn60 := hn60.stored g81 hB72 (by decide)
  replace hx61 := hx61.stored g81 hB72 (by decide) (by decide)
  replace hB72 := hB82
  refine Sq.nil ?_
  refine Eq.next ?_
  refine Cq.seq ?_
  refine Cq.seq ?_
  refine Cq.region ?_
  refine Sq.move .plain rfl rfl ?_
  refine Sq.lenInts (Own.row hn60) .plain rfl und52 rfl ?_
  refine Sq.move .plain rfl rfl ?_
  refine Sq.nil ?_
  refine Eq.next ?_
  refine Cq.block ?_
  have hall := ord_all (f := goA a) (s := 0) (L := letters a.al) (P := fun q => 0 ≤ q ∧ q < (a.next.length : Int)) (zero_in hv) (fun q hq x hx => goA_in hv hq ⟨(mem_letters hx).1, (mem_letters hx).2.1⟩)
  refine Cq.loop (fun nn w ls => ∃ (k : Int), ∃ (acv : Value), ∃ (ys : List Bool), ls = [(1, Value.pointer (some ⟨b1, 0, none⟩)), (2, Value.pointer (some ⟨b8, 0, none⟩)), (7, Value.pointer (some ⟨b69, 0, none⟩)), (27, nv58), (28, Value.int .i64 ((List.length (ord (goA a) 0 (letters a.al)) : Int))), (29, Value.int .i64 k)] ∧ (0 ≤ k ∧ k ≤ (ord (goA a) 0 (letters a.al)).length) ∧ Blk w b69 27 [Value.int .i64 a.al, xv59, acv] ∧ Own w w0.heap.size 4 acv (ys.map Value.bool) ∧ ys = ((ord (goA a) 0 (letters a.al)).take k.toNat).map (accA a) ∧ Ext w0 w ∧ Blk w b1 27 [Value.int .i64 a.al, nx, ac] ∧ Blk w b8 27 [Value.int .i64 0, Value.slice none 0 0, Value.slice none 0 0] ∧ OwnRows w w46.heap.size w56.heap.size 52 3 xv59 ((ord (goA a) 0 (letters a.al)).map (rowAt (goA a) (letters a.al) (ord (goA a) 0 (letters a.al)))) ∧ Own w w46.heap.size 3 nv58 ((ord (goA a) 0 (letters a.al)).map (Value.int .i64)) ∧ nn = (((ord (goA a) 0 (letters a.al)).length : Int) - k).toNat) _ _ ⟨0, _, [], rfl, by omega, hB72, Own.nil _ _ _, rfl, E, hB4, hB11, hx61, hn60, rfl⟩ (.cons rfl (.cons rfl (.cons rfl (.cons rfl (.cons rfl (.cons rfl (.nil))))))) ?_
  rintro nn wl1 ls ⟨k, acv, ys, rfl, hk, hB7, hoa, hys, E, hB4, hB11, hx61, hn60, rfl⟩
  have hs84 := Below.size E
  have hat : k < (ord (goA a) 0 (letters a.al)).length → 0 ≤ (ord (goA a) 0 (letters a.al)).getD k.toNat 0 ∧ (ord (goA a) 0 (letters a.al)).getD k.toNat 0 < a.next.length := fun h => hall _ (getD_mem (by omega))
  have hyl : ys.length ≤ 20 := by rw [hys, List.length_map, List.length_take]; omega
  refine Cq.seq ?_
  refine Cq.region ?_
  refine Sq.lss .plain rfl rfl rfl ?_
  refine Sq.part (fun c85 => ?_) (fun c85 => ?_)
  · refine Sq.nil ?_
    refine Eq.next ?_
    refine Cq.seq ?_
    refine Cq.thn rfl ?_
    refine Cq.skip ?_
    refine Eq.next ?_
    refine Cq.seq ?_
    refine Cq.block ?_
    refine Cq.seq ?_
    refine Cq.region ?_
    refine Sq.idxInts sl52 one3 (Own.row hn60) .plain rfl rfl rfl .plain rfl rfl (by omega) (by omega) ?_
    refine Sq.assign .plain rfl rfl ?_
    refine Sq.nil ?_
    refine Eq.next ?_
    refine Cq.drawS 9 (fun w' => Blk w' b1 27 [Value.int .i64 a.al, nx, ac] ∧ Blk w' b69 27 [Value.int .i64 a.al, xv59, acv] ∧ Ext w0 w') mixed (⟨hB4, hB7, E⟩) (fun w86 e87 hS => ?_)
    clear hS
    have hs88 := Below.size e87
    replace E := E.trans e87
    replace hB4 := hB4.ext e87
    replace hB11 := hB11.ext e87
    replace hx61 := hx61.ext e87
    replace hn60 := hn60.ext e87
    replace hB7 := hB7.ext e87
    replace hoa := hoa.ext e87
    refine Gq.st 0 rfl (by kernel_rfl) rfl .plain rfl (fun _ _ _ h => h) ⟨hB4, hB7, E⟩ (fun w' x => Still.fieldAddr fld27_2 rfl) ?_
    refine Gq.st 1 rfl (by kernel_rfl) rfl .plain rfl (fun _ _ _ h => h) ⟨hB4, hB7, E⟩ (fun w' x => Still.loadB one23 rfl x.2.1 rfl) ?_
    refine Gq.st 2 rfl (by kernel_rfl) rfl .plain rfl (fun _ _ _ h => h) ⟨hB4, hB7, E⟩ (fun w' x => Still.fieldAddr fld27_2 rfl) ?_
    refine Gq.st 3 rfl (by kernel_rfl) rfl .plain rfl (fun _ _ _ h => h) ⟨hB4, hB7, E⟩ (fun w' x => Still.loadB one23 rfl x.1 rfl) ?_
    refine Gq.st 4 rfl (by kernel_rfl) rfl .plain rfl (fun _ _ _ h => h) ⟨hB4, hB7, E⟩ (fun w' x => Still.move rfl) ?_
    obtain ⟨p89, hp90_w86⟩ := Bools.at hac (i := (ord (goA a) 0 (letters a.al)).getD k.toNat 0) (by have := hat (by omega); omega) (by have := hat (by omega); omega)
    refine Gq.st 5 rfl (by kernel_rfl) rfl .plain rfl (fun _ _ _ h => h) ⟨hB4, hB7, E⟩ (fun w' x => Still.at' sl23 hp90_w86 rfl rfl) ?_
    refine Gq.st 6 rfl (by kernel_rfl) rfl .plain rfl (fun _ _ _ h => h) ⟨hB4, hB7, E⟩ (fun w' x => Still.loadA one4 rfl (hp90_w86.ext (x.2.2)).1) ?_
    refine Gq.one 7 rfl (by kernel_rfl) ?_
    refine Sq.lit sl23 rfl rfl .plain rfl rfl (one_cons rfl one_nil) (fun b91 w92 e93 hlo94 ho95 _ => ?_)
    replace ho95 := ho95 w86.heap.size (Nat.le_refl _)
    have hs97 := Below.size e93
    replace E := E.trans e93
    replace hB4 := hB4.ext e93
    replace hB11 := hB11.ext e93
    replace hx61 := hx61.ext e93
    replace hn60 := hn60.ext e93
    replace hB7 := hB7.ext e93
    replace hoa := hoa.ext e93
    refine Sq.nil ?_
    refine Eq.goes (fun _ => ⟨hB4, hB7, E⟩) ?_
    refine Gq.one 8 rfl (by kernel_rfl) ?_
    refine Sq.app sl23 hoa (by omega) (Own.row ho95) (one_cons rfl one_nil) (by first | omega | (simp; omega)) .plain rfl rfl rfl rfl (fun v98 w99 ho101 g100 => ?_)
    have hs102 := g100.size
    replace E := E.owned hoa g100 (by omega)
    replace hB4 := hB4.owned hoa g100 (by decide)
    replace hB11 := hB11.owned hoa g100 (by decide)
    replace hx61 := hx61.owned hoa g100 (by decide) (by decide)
    replace hn60 := hn60.owned hoa g100 (by decide)
    replace hB7 := hB7.owned hoa g100 (by decide)
    refine Sq.nil ?_
    refine Eq.goes (fun _ => ⟨hB4, hB7, E⟩) ?_
    refine Gq.one 9 rfl (by kernel_rfl) ?_
    refine Sq.fieldAddr fld27_2 .plain rfl rfl ?_
    refine Sq.nil ?_
    refine Eq.goes (fun h => absurd h (by decide)) ?_
    refine Gq.one 10 rfl (by kernel_rfl) ?_
    refine Sq.store one23 .plain rfl rfl (Row.one (Own.row ho101)) hB7 (by simp) (fun w103 g104 hB105 => ?_)
    have hs106 := World.grownBy.size g104
    replace E := E.grown g104 (fun k hk => by injection hk with hk; subst hk; omega)
    replace hB4 := hB4.grown g104 (by intro h; injection h with h; omega)
    replace hB11 := hB11.grown g104 (by intro h; injection h with h; omega)
    replace hx61 := hx61.stored g104 hB7 (by decide) (by decide)
    replace hn60 := hn60.stored g104 hB7 (by decide)
    replace ho101 := ho101.stored g104 hB7 (by decide)
    replace hB7 := hB105
    refine Sq.nil ?_
    refine Eq.goes (fun h => absurd h (by decide)) ?_
    refine Gq.done (by kernel_rfl) ?_
    refine Eq.end ?_
    refine Eq.next ?_
    refine Cq.region ?_
    refine Sq.add .plain rfl rfl rfl (by omega) ?_
    refine Sq.move .plain rfl rfl ?_
    refine Sq.nil ?_
    have e1 := toNat_succ hk.1
    refine Eq.round _ _ ⟨k + 1, _, _, rfl, by omega, hB7, Own.snocB ho101, by rw [e1, take_snoc 0 (by omega), List.map_append, ← hys]; rfl, E, hB4, hB11, hx61, hn60, rfl⟩ (by omega) (.cons rfl (.cons rfl (.cons rfl (.cons rfl (.cons rfl (.cons rfl (.nil)))))))
  refine Sq.nil ?_
  refine Eq.next ?_
  refine Cq.seq ?_
  refine Cq.els rfl ?_
  refine Cq.exit ?_
  refine Eq.past ?_
  refine Eq.past ?_
  refine Eq.hit ?_
  refine Eq.next ?_
  refine Cq.seq ?_
  refine Cq.region ?_
  refine Sq.loadAgg agg27 .plain rfl rfl hB7 rfl ?_
  refine Sq.storeAgg agg27 .plain rfl rfl (one_cons rfl (one_cons (Rows.one (OwnRows.rows hx61)) (one_cons (Row.one (Own.row hoa)) one_nil))) hB11 rfl rfl (fun w107 g108 hB109 => ?_)
  have hs110 := World.grownBy.size g108
  replace E := E.grown g108 (fun k hk => by injection hk with hk; subst hk; omega)
  replace hx61 := hx61.stored g108 hB11 (by decide) (by decide)
  replace hoa := hoa.stored g108 hB11 (by decide)
  replace hB11 := hB109
  refine Sq.nil ?_
  refine Eq.next ?_
  refine Cq.ret ?_
  refine Eq.retCell rfl rfl agg27 hB11 rfl ?_
  have e : ys = (trim a).acc := by rw [hys, List.take_of_length_le (by omega)]; rfl
  rw [e] at hoa
  exact ⟨⟨_, _, rfl, OwnRows.now (OwnRows.mono hx61 (by omega)), hoa⟩, E⟩
set_option maxRecDepth 100000 in
theorem trimA_c (w0 : World) (a : A) (nx ac : Value) (hnx : Rows w0 52 3 nx a.next) (hac : Bools w0 4 ac a.acc) : Ret Try.prog 16 #[Value.agg #[Value.int .i64 a.al, nx, ac]] w0 (fun v w => (∃ u, v = .tuple #[u, .bool (validA a)] ∧ OwnA w w0.heap.size u (if validA a then trim a else zeroA)) ∧ Ext w0 w) := by
  have E := Ext.refl w0
  refine Ret.of (args := [Value.agg #[Value.int .i64 a.al, nx, ac]]) Try.func16 rfl rfl rfl ?_
  rintro _ rfl
  show Cq _ _ _ _ [(0, Value.agg #[Value.int .i64 a.al, nx, ac])] _
  refine Cq.seq ?_
  refine Cq.region ?_
  refine Sq.box .plain rfl rfl (fun b1 w2 e3 hB4 hlo5 => ?_)
  have hd6 := Nat.le_trans (Below.size E) hlo5
  have hs7 := Below.size e3
  replace E := E.trans e3
  refine Sq.alloc zero27 .plain rfl (fun b8 w9 e10 hB11 hlo12 => ?_)
  have hd13 := Nat.le_trans (Below.size E) hlo12
  have hd14 := Nat.lt_of_lt_of_le hB4.lt hlo12
  have hs15 := Below.size e10
  replace E := E.trans e10
  replace hB4 := hB4.ext e10
  refine Sq.assign .plain rfl rfl ?_
  refine Sq.nil ?_
  refine Eq.next ?_
  refine Cq.seq ?_
  refine Cq.seq ?_
  refine Cq.region ?_
  refine Sq.loadAgg agg27 .plain rfl rfl hB4 rfl ?_
  have hd19 := hB4.lt
  have hd20 := hB11.lt
  refine Sq.call fn44 .plain rfl rfl (valid_c _ a _ _ (hnx.ext E) (hac.ext E)) ?_
  rintro _ w17 ⟨rfl, e18⟩
  have hs21 := Below.size E
  have hs22 := Below.size e18
  replace E := E.trans e18
  replace hB4 := hB4.ext e18
  replace hB11 := hB11.ext e18
  refine Sq.partB (fun hv => ?_) (fun hv => ?_)
  · refine Sq.notT .plain rfl rfl ?_
    refine Sq.nil ?_
    refine Eq.next ?_
    refine Cq.els rfl ?_
    refine Cq.skip ?_
    refine Eq.next ?_
    refine Cq.seq ?_
    refine Cq.region ?_
    refine Sq.loadAgg agg27 .plain rfl rfl hB4 rfl ?_
    have hd30 := hB4.lt
    have hd31 := hB11.lt
    refine Sq.call fn45 .plain rfl rfl (trim_c _ a _ _ (hnx.ext E) (hac.ext E) hv) ?_
    rintro _ w24 ⟨⟨nx26, ac27, rfl, hn28, ha29⟩, e25⟩
    have hs32 := Below.size E
    have hs33 := Below.size e25
    replace E := E.trans e25
    replace hB11 := hB11.ext e25
    refine Sq.storeAgg agg27 .plain rfl rfl (one_cons rfl (one_cons (Rows.one (OwnRows.rows hn28)) (one_cons (Row.one (Own.row ha29)) one_nil))) hB11 rfl rfl (fun w34 g35 hB36 => ?_)
    have hs37 := World.grownBy.size g35
    replace E := E.grown g35 (fun k hk => by injection hk with hk; subst hk; omega)
    replace hn28 := hn28.stored g35 hB11 (by decide) (by decide)
    replace ha29 := ha29.stored g35 hB11 (by decide)
    replace hB11 := hB36
    refine Sq.assign .plain rfl rfl ?_
    refine Sq.nil ?_
    refine Eq.next ?_
    refine Cq.ret ?_
    refine Eq.retCell2 rfl rfl agg27 hB11 rfl rfl ?_
    exact ⟨⟨_, by rw [hv], by rw [if_pos hv]; exact ⟨_, _, rfl, OwnRows.now (OwnRows.mono hn28 (by omega)), Own.mono ha29 (by omega)⟩⟩, E⟩
  refine Sq.notF .plain rfl rfl ?_
  refine Sq.nil ?_
  refine Eq.next ?_
  refine Cq.thn rfl ?_
  refine Cq.seq ?_
  refine Cq.region ?_
  refine Sq.build st27 rfl rfl .plain rfl rfl one_nil rfl ?_
  refine Sq.storeAgg agg27 .plain rfl rfl (one_cons rfl (one_cons rfl (one_cons rfl one_nil))) hB11 rfl rfl (fun w38 g39 hB40 => ?_)
  have hs41 := World.grownBy.size g39
  replace E := E.grown g39 (fun k hk => by injection hk with hk; subst hk; omega)
  replace hB11 := hB40
  refine Sq.assign .plain rfl rfl ?_
  refine Sq.nil ?_
  refine Eq.next ?_
  refine Cq.ret ?_
  refine Eq.pastRet ?_
  refine Eq.retCell2 rfl rfl agg27 hB11 rfl rfl ?_
  exact ⟨⟨_, by rw [hv], by rw [if_neg (by simp [hv])]; exact ⟨_, _, rfl, OwnRows.nil _ _ _ _ _, Own.nil _ _ _⟩⟩, E⟩
theorem trimA_c_T (w0 : World) (a : A) (nx ac : Value) (hnx : Rows w0 52 3 nx a.next) (hac : Bools w0 4 ac a.acc) (hC : (validA a) = true) : Ret Try.prog 16 #[Value.agg #[Value.int .i64 a.al, nx, ac]] w0 (fun v w => (∃ u, v = .tuple #[u, .bool true] ∧ OwnA w w0.heap.size u (trim a)) ∧ Ext w0 w) :=
  (trimA_c w0 a nx ac hnx hac).mono fun v w h => by rw [hC, if_pos rfl] at h; exact h
theorem trimA_c_F (w0 : World) (a : A) (nx ac : Value) (hnx : Rows w0 52 3 nx a.next) (hac : Bools w0 4 ac a.acc) (hC : (validA a) = false) : Ret Try.prog 16 #[Value.agg #[Value.int .i64 a.al, nx, ac]] w0 (fun v w => (∃ u, v = .tuple #[u, .bool false] ∧ OwnA w w0.heap.size u (zeroA)) ∧ Ext w0 w) :=
  (trimA_c w0 a nx ac hnx hac).mono fun v w h => by rw [hC, if_neg (by decide)] at h; exact h
set_option maxRecDepth 100000 in
theorem l4In_c (w0 : World) (xs : List Int) (r : Value) (hr : Ints w0 3 r xs) (n : Int) (hl : xs.length ≤ 1000000) : Ret Try.prog 102 #[r, Value.int .i64 n] w0 (fun v w => v = .bool (decide (n ∈ xs)) ∧ w0 = w) := by
  refine Ret.of (args := [r, Value.int .i64 n]) Try.func102 rfl rfl rfl ?_
  rintro _ rfl
  show Cq _ _ _ _ [(0, r), (1, Value.int .i64 n)] _
  refine Cq.seq ?_
  refine Cq.region ?_
  refine Sq.assign .plain rfl rfl ?_
  refine Sq.nil ?_
  refine Eq.next ?_
  refine Cq.seq ?_
  refine Cq.seq ?_
  refine Cq.region ?_
  refine Sq.assign .plain rfl rfl ?_
  refine Sq.nil ?_
  refine Eq.next ?_
  refine Cq.block ?_
  refine Cq.loop (fun nn w ls => ∃ (k : Int), ls = [(0, r), (1, Value.int .i64 n), (5, Value.int .i64 k)] ∧ w0 = w ∧ (0 ≤ k ∧ k ≤ xs.length) ∧ n ∉ xs.take k.toNat ∧ nn = ((xs.length : Int) - k).toNat) _ _ ⟨0, rfl, rfl, by omega, by simp, rfl⟩ (.cons rfl (.cons rfl (.cons rfl (.nil)))) ?_
  rintro n1 w ls ⟨k, rfl, rfl, hk, hp, rfl⟩
  refine Cq.seq ?_
  refine Cq.seq ?_
  refine Cq.region ?_
  refine Sq.move .plain rfl rfl ?_
  refine Sq.move .plain rfl rfl ?_
  refine Sq.lenInts hr .plain rfl und52 rfl ?_
  refine Sq.lss .plain rfl rfl rfl ?_
  refine Sq.part (fun c1 => ?_) (fun c1 => ?_)
  · refine Sq.nil ?_
    refine Eq.next ?_
    refine Cq.thn rfl ?_
    refine Cq.skip ?_
    refine Eq.next ?_
    refine Cq.seq ?_
    refine Cq.block ?_
    refine Cq.seq ?_
    refine Cq.region ?_
    refine Sq.move .plain rfl rfl ?_
    refine Sq.move .plain rfl rfl ?_
    refine Sq.idxInts sl52 one3 hr .plain rfl rfl rfl .plain rfl rfl (by omega) (by omega) ?_
    refine Sq.move .plain rfl rfl ?_
    refine Sq.eql .plain rfl rfl rfl ?_
    refine Sq.part (fun hne => ?_) (fun hne => ?_)
    · refine Sq.nil ?_
      refine Eq.next ?_
      refine Cq.thn rfl ?_
      refine Cq.seq ?_
      refine Cq.region ?_
      refine Sq.assign .plain rfl rfl ?_
      refine Sq.nil ?_
      refine Eq.next ?_
      refine Cq.ret ?_
      refine Eq.outRet ?_
      refine Eq.pastRet ?_
      refine Eq.pastRet ?_
      refine Eq.outRet ?_
      refine Eq.pastRet ?_
      refine Eq.ret1 rfl rfl ?_
      exact ⟨by rw [decide_eq_true (hne ▸ getD_mem (by omega))], rfl⟩
    refine Sq.nil ?_
    refine Eq.next ?_
    refine Cq.els rfl ?_
    refine Cq.skip ?_
    refine Eq.end ?_
    refine Eq.next ?_
    refine Cq.region ?_
    refine Sq.move .plain rfl rfl ?_
    refine Sq.add .plain rfl rfl rfl (by omega) ?_
    refine Sq.assign .plain rfl rfl ?_
    refine Sq.nil ?_
    have e1 := toNat_succ hk.1
    refine Eq.round _ _ ⟨k + 1, rfl, rfl, by omega, by rw [e1]; exact notin_snoc hp (by omega) hne, rfl⟩ (by omega) (.cons rfl (.cons rfl (.cons rfl (.nil))))
  refine Sq.nil ?_
  refine Eq.next ?_
  refine Cq.els rfl ?_
  refine Cq.exit ?_
  refine Eq.past ?_
  refine Eq.past ?_
  refine Eq.hit ?_
  refine Eq.next ?_
  refine Cq.seq ?_
  refine Cq.region ?_
  refine Sq.assign .plain rfl rfl ?_
  refine Sq.nil ?_
  refine Eq.next ?_
  refine Cq.ret ?_
  refine Eq.ret1 rfl rfl ?_
  exact ⟨by rw [decide_eq_false (notin_done hp (by omega))], rfl⟩
set_option maxRecDepth 100000 in
theorem l5Index_c (w0 : World) (xs : List Int) (r : Value) (hr : Ints w0 3 r xs) (n : Int) (hl : xs.length ≤ 1000000) (hm : n ∈ xs) : Ret Try.prog 77 #[r, Value.int .i64 n] w0 (fun v w => v = .int .i64 (xs.idxOf n : Nat) ∧ w0 = w) := by
  refine Ret.of (args := [r, Value.int .i64 n]) Try.func77 rfl rfl rfl ?_
  rintro _ rfl
  show Cq _ _ _ _ [(0, r), (1, Value.int .i64 n)] _
  refine Cq.seq ?_
  refine Cq.region ?_
  refine Sq.assign .plain rfl rfl ?_
  refine Sq.nil ?_
  refine Eq.next ?_
  refine Cq.seq ?_
  refine Cq.region ?_
  refine Sq.assign .plain rfl rfl ?_
  refine Sq.nil ?_
  refine Eq.next ?_
  refine Cq.seq ?_
  refine Cq.block ?_
  refine Cq.loop (fun nn w ls => ∃ (k : Int), ls = [(0, r), (1, Value.int .i64 n), (5, Value.int .i64 k)] ∧ w0 = w ∧ (0 ≤ k) ∧ n ∉ xs.take k.toNat ∧ nn = ((xs.length : Int) - k).toNat) _ _ ⟨0, rfl, rfl, by omega, by simp, rfl⟩ (.cons rfl (.cons rfl (.cons rfl (.nil)))) ?_
  rintro n1 w ls ⟨k, rfl, rfl, hk, hp, rfl⟩
  have hlt := notin_lt hm hp
  refine Cq.seq ?_
  refine Cq.seq ?_
  refine Cq.region ?_
  refine Sq.move .plain rfl rfl ?_
  refine Sq.move .plain rfl rfl ?_
  refine Sq.idxInts sl52 one3 hr .plain rfl rfl rfl .plain rfl rfl (by omega) (by omega) ?_
  refine Sq.move .plain rfl rfl ?_
  refine Sq.neq .plain rfl rfl rfl ?_
  refine Sq.part (fun hne => ?_) (fun hne => ?_)
  · refine Sq.nil ?_
    refine Eq.next ?_
    refine Cq.thn rfl ?_
    refine Cq.skip ?_
    refine Eq.next ?_
    refine Cq.block ?_
    refine Cq.region ?_
    refine Sq.move .plain rfl rfl ?_
    refine Sq.add .plain rfl rfl rfl (by omega) ?_
    refine Sq.assign .plain rfl rfl ?_
    refine Sq.nil ?_
    refine Eq.end ?_
    have e1 := toNat_succ hk
    refine Eq.round _ _ ⟨k + 1, rfl, rfl, by omega, by rw [e1]; exact notin_snoc hp (by omega) hne, rfl⟩ (by omega) (.cons rfl (.cons rfl (.cons rfl (.nil))))
  refine Sq.nil ?_
  refine Eq.next ?_
  refine Cq.els rfl ?_
  refine Cq.exit ?_
  refine Eq.past ?_
  refine Eq.past ?_
  refine Eq.hit ?_
  refine Eq.next ?_
  refine Cq.seq ?_
  refine Cq.region ?_
  refine Sq.move .plain rfl rfl ?_
  refine Sq.assign .plain rfl rfl ?_
  refine Sq.nil ?_
  refine Eq.next ?_
  refine Cq.ret ?_
  refine Eq.ret1 rfl rfl ?_
  have e := idx_here hp (by omega) (by omega)
  exact ⟨by rw [e]; congr 1; omega, rfl⟩
set_option maxRecDepth 100000 in
theorem l5Order_c (w0 : World) (a : A) (nx ac : Value) (hnx : Rows w0 52 3 nx a.next) (hac : Bools w0 4 ac a.acc) (hv : validA a = true) : Ret Try.prog 76 #[Value.agg #[Value.int .i64 a.al, nx, ac]] w0 (fun v w => Own w w0.heap.size 3 v ((ord (goA a) 0 (letters a.al)).map (Value.int .i64)) ∧ Ext w0 w) := by
  have E := Ext.refl w0
  have hvs := validA_spec.1 hv
  have hvn := hvs.2.1
  have hlet := letters_len6 a.al
  refine Ret.of (args := [Value.agg #[Value.int .i64 a.al, nx, ac]]) Try.func76 rfl rfl rfl ?_
  rintro _ rfl
  show Cq _ _ _ _ [(0, Value.agg #[Value.int .i64 a.al, nx, ac])] _
  refine Cq.seq ?_
  refine Cq.region ?_
  refine Sq.box .plain rfl rfl (fun b1 w2 e3 hB4 hlo5 => ?_)
  have hd6 := Nat.le_trans (Below.size E) hlo5
  have hs7 := Below.size e3
  replace E := E.trans e3
  refine Sq.assign .plain rfl rfl ?_
  refine Sq.nil ?_
  refine Eq.next ?_
  refine Cq.seq ?_
  refine Cq.region ?_
  refine Sq.lit sl52 rfl rfl .plain rfl rfl (one_cons rfl one_nil) (fun b8 w9 e10 hlo11 ho12 _ => ?_)
  replace ho12 := ho12 w2.heap.size (Nat.le_refl _)
  have hs14 := Below.size e10
  replace E := E.trans e10
  replace hB4 := hB4.ext e10
  refine Sq.assign .plain rfl rfl ?_
  refine Sq.nil ?_
  refine Eq.next ?_
  refine Cq.seq ?_
  refine Cq.seq ?_
  refine Cq.region ?_
  refine Sq.assign .plain rfl rfl ?_
  refine Sq.nil ?_
  refine Eq.next ?_
  refine Cq.block ?_
  refine Cq.loop (fun nn w ls => ∃ (i : Int), ∃ (nv : Value), ls = [(1, Value.pointer (some ⟨b1, 0, none⟩)), (3, nv), (4, Value.int .i64 i)] ∧ (0 ≤ i ∧ i ≤ (bfs (goA a) 0 (letters a.al) i.toNat).length) ∧ Own w w0.heap.size 3 nv ((bfs (goA a) 0 (letters a.al) i.toNat).map (Value.int .i64)) ∧ Ext w0 w ∧ Blk w b1 27 [Value.int .i64 a.al, nx, ac] ∧ nn = (100 - i).toNat) _ _ ⟨0, _, rfl, ⟨by omega, by show (0 : Int) ≤ ((1 : Nat) : Int); omega⟩, Own.mono ho12 (by omega), E, hB4, rfl⟩ (.cons rfl (.cons rfl (.cons rfl (.nil)))) ?_
  rintro nn wl1 ls ⟨i, nv, rfl, hi, hno, E, hB4, rfl⟩
  have hs15 := Below.size E
  have hbl := trim_bfs_len hv i.toNat
  have hb0 := bfs_all (f := goA a) (s := 0) (L := letters a.al) (P := fun q => 0 ≤ q ∧ q < (a.next.length : Int)) (zero_in hv) (fun q hq x hx => goA_in hv hq ⟨(mem_letters hx).1, (mem_letters hx).2.1⟩) i.toNat
  have hqi : i < (bfs (goA a) 0 (letters a.al) i.toNat).length → 0 ≤ (bfs (goA a) 0 (letters a.al) i.toNat).getD i.toNat 0 ∧ (bfs (goA a) 0 (letters a.al) i.toNat).getD i.toNat 0 < a.next.length := fun h => hb0 _ (getD_mem (by omega))
  refine Cq.seq ?_
  refine Cq.seq ?_
  refine Cq.region ?_
  refine Sq.move .plain rfl rfl ?_
  refine Sq.move .plain rfl rfl ?_
  refine Sq.lenInts (Own.row hno) .plain rfl und52 rfl ?_
  refine Sq.lss .plain rfl rfl rfl ?_
  refine Sq.part (fun c16 => ?_) (fun c16 => ?_)
  · refine Sq.nil ?_
    refine Eq.next ?_
    refine Cq.thn rfl ?_
    refine Cq.skip ?_
    refine Eq.next ?_
    refine Cq.seq ?_
    refine Cq.block ?_
    refine Cq.seq ?_
    refine Cq.draw 8 none mixed (fun w17 e18 => ?_)
    have hs19 := Below.size e18
    replace E := E.trans e18
    replace hB4 := hB4.ext e18
    replace hno := hno.ext e18
    have E_w17 := E
    have hB4_w17 := hB4
    have hno_w17 := hno
    refine Gq.st 0 rfl (by kernel_rfl) rfl .plain rfl (fun _ _ _ h => h) (World.grownBy.refl w17 _) (fun w' x => Still.fieldAddr fld27_1 rfl) ?_
    refine Gq.st 1 rfl (by kernel_rfl) rfl .plain rfl (fun _ _ _ h => h) (World.grownBy.refl w17 _) (fun w' x => Still.loadB one22 rfl (hB4_w17.ext (Ext.of_grown x)) rfl) ?_
    refine Gq.st 2 rfl (by kernel_rfl) rfl .plain rfl (fun _ _ _ h => h) (World.grownBy.refl w17 _) (fun w' x => Still.move rfl) ?_
    refine Gq.st 3 rfl (by kernel_rfl) rfl .plain rfl (fun _ _ _ h => h) (World.grownBy.refl w17 _) (fun w' x => Still.move rfl) ?_
    obtain ⟨p20, hp21_w17⟩ := Ints.at (Own.row hno_w17) (i := i) (by omega) (by omega)
    have hp21o := AtO.of hno_w17 hp21_w17
    refine Gq.st 4 rfl (by kernel_rfl) rfl .plain rfl (fun _ _ _ h => h) (World.grownBy.refl w17 _) (fun w' x => Still.at' sl52 hp21_w17 rfl rfl) ?_
    refine Gq.st 5 rfl (by kernel_rfl) rfl .plain rfl (fun _ _ _ h => h) (World.grownBy.refl w17 _) (fun w' x => Still.loadA one3 rfl (hp21_w17.ext (Ext.of_grown x)).1) ?_
    obtain ⟨p22, r24, hp23_w17, hr25⟩ := Rows.at hnx (i := (bfs (goA a) 0 (letters a.al) i.toNat).getD i.toNat 0) (by omega) (by omega)
    refine Gq.st 6 rfl (by kernel_rfl) rfl .plain rfl (fun _ _ _ h => h) (World.grownBy.refl w17 _) (fun w' x => Still.at' sl22 hp23_w17 rfl rfl) ?_
    refine Gq.st 7 rfl (by kernel_rfl) rfl .plain rfl (fun _ _ _ h => h) (World.grownBy.refl w17 _) (fun w' x => Still.loadA one52 rfl (hp23_w17.ext (E_w17.trans (Ext.of_grown x))).1) ?_
    refine Gq.one 8 rfl (by kernel_rfl) ?_
    refine Sq.assign .plain rfl rfl ?_
    refine Sq.nil ?_
    refine Eq.goes (fun h => absurd h (by decide)) ?_
    refine Gq.done (by kernel_rfl) ?_
    refine Eq.next ?_
    refine Cq.seq ?_
    refine Cq.region ?_
    refine Sq.assign .plain rfl rfl ?_
    refine Sq.nil ?_
    refine Eq.next ?_
    refine Cq.block ?_
    obtain ⟨q, hq⟩ : ∃ q, (bfs (goA a) 0 (letters a.al) i.toNat)[i.toNat]? = some q := ⟨_, List.getElem?_eq_getElem (by omega)⟩
    have hqe : (bfs (goA a) 0 (letters a.al) i.toNat).getD i.toNat 0 = q := by rw [List.getD_eq_getElem?_getD, hq]; rfl
    rw [hqe] at hqi hr25
    have hvr := valid_row hv (k := q.toNat) (by omega)
    refine Cq.loop (fun nn w ls => ∃ (k : Int), ∃ (nv2 : Value), ls = [(1, Value.pointer (some ⟨b1, 0, none⟩)), (3, nv2), (4, Value.int .i64 i), (5, r24), (6, Value.int .i64 k)] ∧ (0 ≤ k ∧ k ≤ (letters a.al).length) ∧ Own w w0.heap.size 3 nv2 ((mid (goA a) 0 (letters a.al) i.toNat q k.toNat).map (Value.int .i64)) ∧ Ext w0 w ∧ Blk w b1 27 [Value.int .i64 a.al, nx, ac] ∧ nn = ((letters a.al).length - k).toNat) _ _ ⟨0, _, rfl, by omega, hno, E, hB4, rfl⟩ (.cons rfl (.cons rfl (.cons rfl (.cons rfl (.cons rfl (.nil)))))) ?_
    rintro nn wl2 ls ⟨k, nv2, rfl, hk, hno, E, hB4, rfl⟩
    have hs26 := Below.size E
    have hbl2 := trim_bfs_len hv (i.toNat + 1)
    have hmh := (mid_prefix (f := goA a) (s := 0) (L := letters a.al) (k := k.toNat) hq).length_le
    have hrg : k < (letters a.al).length → _ := fun h => row_go hv (q := q.toNat) (k := k.toNat) (by omega) (by omega)
    have hml := (mid_prefix0 (f := goA a) (s := 0) (L := letters a.al) i.toNat q k.toNat).length_le
    refine Cq.seq ?_
    refine Cq.seq ?_
    refine Cq.region ?_
    refine Sq.move .plain rfl rfl ?_
    refine Sq.move .plain rfl rfl ?_
    refine Sq.lenInts (hr25.ext E) .plain rfl und52 rfl ?_
    refine Sq.lss .plain rfl rfl rfl ?_
    refine Sq.part (fun c27 => ?_) (fun c27 => ?_)
    · refine Sq.nil ?_
      refine Eq.next ?_
      refine Cq.thn rfl ?_
      refine Cq.skip ?_
      refine Eq.next ?_
      refine Cq.seq ?_
      refine Cq.block ?_
      refine Cq.seq ?_
      refine Cq.region ?_
      refine Sq.move .plain rfl rfl ?_
      refine Sq.move .plain rfl rfl ?_
      refine Sq.move .plain rfl rfl ?_
      refine Sq.idxInts sl52 one3 (hr25.ext E) .plain rfl rfl rfl .plain rfl rfl (by omega) (by omega) ?_
      refine Sq.call fn102 .plain rfl rfl (l4In_c _ ((mid (goA a) 0 (letters a.al) i.toNat q k.toNat)) _ (Own.row hno) ((a.next.getD q.toNat []).getD k.toNat 0) (by omega)) ?_
      rintro _ _ ⟨rfl, rfl⟩
      refine Sq.part (fun hin => ?_) (fun hin => ?_)
      · refine Sq.notT .plain rfl rfl ?_
        refine Sq.nil ?_
        refine Eq.next ?_
        refine Cq.els rfl ?_
        refine Cq.skip ?_
        refine Eq.end ?_
        refine Eq.next ?_
        refine Cq.region ?_
        refine Sq.move .plain rfl rfl ?_
        refine Sq.add .plain rfl rfl rfl (by omega) ?_
        refine Sq.assign .plain rfl rfl ?_
        refine Sq.nil ?_
        have e2 := toNat_succ hk.1
        have e5 := mid_succ (f := goA a) (s := 0) (i := i.toNat) (q := q) (k := k.toNat) (L := letters a.al) (by omega)
        have e6 := hrg (by omega)
        rw [Int.toNat_of_nonneg (hqi (by omega)).1] at e6
        rw [e6] at hin
        rw [addNode_T hin] at e5
        refine Eq.round _ _ ⟨k + 1, _, rfl, by omega, by rw [e2, e5]; exact hno, E, hB4, rfl⟩ (by omega) (.cons rfl (.cons rfl (.cons rfl (.cons rfl (.cons rfl (.nil))))))
      refine Sq.notF .plain rfl rfl ?_
      refine Sq.nil ?_
      refine Eq.next ?_
      refine Cq.thn rfl ?_
      refine Cq.region ?_
      refine Sq.move .plain rfl rfl ?_
      refine Sq.move .plain rfl rfl ?_
      refine Sq.move .plain rfl rfl ?_
      refine Sq.idxInts sl52 one3 (hr25.ext E) .plain rfl rfl rfl .plain rfl rfl (by omega) (by omega) ?_
      refine Sq.app1 sl52 hno (by omega) (by rw [List.length_map]; omega) .plain rfl rfl rfl rfl rfl rfl rfl (fun v28 w29 ho31 g30 _ => ?_)
      have hs32 := g30.size
      replace E := E.owned hno g30 (by omega)
      replace hB4 := hB4.owned hno g30 (by decide)
      refine Sq.assign .plain rfl rfl ?_
      refine Sq.nil ?_
      refine Eq.end ?_
      refine Eq.next ?_
      refine Cq.region ?_
      refine Sq.move .plain rfl rfl ?_
      refine Sq.add .plain rfl rfl rfl (by omega) ?_
      refine Sq.assign .plain rfl rfl ?_
      refine Sq.nil ?_
      have e2 := toNat_succ hk.1
      have e5 := mid_succ (f := goA a) (s := 0) (i := i.toNat) (q := q) (k := k.toNat) (L := letters a.al) (by omega)
      have e6 := hrg (by omega)
      rw [Int.toNat_of_nonneg (hqi (by omega)).1] at e6
      rw [e6] at hin
      rw [addNode_F hin] at e5
      rw [e6] at ho31
      refine Eq.round _ _ ⟨k + 1, _, rfl, by omega, by rw [e2, e5]; exact Own.snocI ho31, E, hB4, rfl⟩ (by omega) (.cons rfl (.cons rfl (.cons rfl (.cons rfl (.cons rfl (.nil))))))
    refine Sq.nil ?_
    refine Eq.next ?_
    refine Cq.els rfl ?_
    refine Cq.exit ?_
    refine Eq.past ?_
    refine Eq.past ?_
    refine Eq.hit ?_
    refine Eq.end ?_
    refine Eq.next ?_
    refine Cq.region ?_
    refine Sq.move .plain rfl rfl ?_
    refine Sq.add .plain rfl rfl rfl (by omega) ?_
    refine Sq.assign .plain rfl rfl ?_
    refine Sq.nil ?_
    have e1 := toNat_succ hi.1
    have e3 := mid_done (f := goA a) (s := 0) (L := letters a.al) (k := k.toNat) (by omega) hq
    have e4 := (bfs_prefix1 (f := goA a) (s := 0) (L := letters a.al) i.toNat).length_le
    refine Eq.round _ _ ⟨i + 1, _, rfl, by rw [e1]; omega, by rw [e1, ← e3]; exact hno, E, hB4, rfl⟩ (by omega) (.cons rfl (.cons rfl (.cons rfl (.nil))))
  refine Sq.nil ?_
  refine Eq.next ?_
  refine Cq.els rfl ?_
  refine Cq.exit ?_
  refine Eq.past ?_
  refine Eq.past ?_
  refine Eq.hit ?_
  refine Eq.next ?_
  refine Cq.seq ?_
  refine Cq.region ?_
  refine Sq.move .plain rfl rfl ?_
  refine Sq.assign .plain rfl rfl ?_
  refine Sq.nil ?_
  refine Eq.next ?_
  refine Cq.ret ?_
  refine Eq.ret1 rfl rfl ?_
  rw [ord_done (f := goA a) (s := 0) (L := letters a.al) (i := i.toNat) (by omega) (by omega)] at hno
  exact ⟨hno, E⟩
end Go.Proofs.Ytdkdpmmfebdeaaa
set_option linter.unusedSimpArgs false
set_option linter.unusedVariables false
namespace Go.Proofs.Ytdkdpmmfebdeaaa
open Go.RowKit
set_option maxRecDepth 100000 in
theorem l5Trim_c (w0 : World) (a : A) (nx ac : Value) (hnx : Rows w0 52 3 nx a.next) (hac : Bools w0 4 ac a.acc) (hv : validA a = true) : Ret Try.prog 41 #[Value.agg #[Value.int .i64 a.al, nx, ac]] w0 (fun v w => OwnA w w0.heap.size v (trim a) ∧ Ext w0 w) := by
  have E := Ext.refl w0
  have hvs := validA_spec.1 hv
  have hvn := hvs.2.1
  have hlet := letters_len6 a.al
  have htl := trim_len hv
  have hall := ord_all (f := goA a) (s := 0) (L := letters a.al) (P := fun q => 0 ≤ q ∧ q < (a.next.length : Int)) (zero_in hv) (fun q hq x hx => goA_in hv hq ⟨(mem_letters hx).1, (mem_letters hx).2.1⟩)
  refine Ret.of (args := [Value.agg #[Value.int .i64 a.al, nx, ac]]) Try.func41 rfl rfl rfl ?_
  rintro _ rfl
  show Cq _ _ _ _ [(0, Value.agg #[Value.int .i64 a.al, nx, ac])] _
  refine Cq.seq ?_
  refine Cq.region ?_
  refine Sq.box .plain rfl rfl (fun b1 w2 e3 hB4 hlo5 => ?_)
  have hd6 := Nat.le_trans (Below.size E) hlo5
  have hs7 := Below.size e3
  replace E := E.trans e3
  refine Sq.alloc zero27 .plain rfl (fun b8 w9 e10 hB11 hlo12 => ?_)
  have hd13 := Nat.le_trans (Below.size E) hlo12
  have hd14 := Nat.lt_of_lt_of_le hB4.lt hlo12
  have hs15 := Below.size e10
  replace E := E.trans e10
  replace hB4 := hB4.ext e10
  refine Sq.nil ?_
  refine Eq.next ?_
  refine Cq.seq ?_
  refine Cq.region ?_
  refine Sq.loadAgg agg27 .plain rfl rfl hB4 rfl ?_
  have hd20 := hB4.lt
  have hd21 := hB11.lt
  refine Sq.call fn76 .plain rfl rfl (l5Order_c _ a _ _ (hnx.ext E) (hac.ext E) hv) ?_
  rintro v16 w17 ⟨ho19, e18⟩
  have hs22 := Below.size E
  have hs23 := Below.size e18
  replace E := E.trans e18
  replace hB4 := hB4.ext e18
  replace hB11 := hB11.ext e18
  refine Sq.assign .plain rfl rfl ?_
  refine Sq.nil ?_
  refine Eq.next ?_
  refine Cq.seq ?_
  refine Cq.region ?_
  refine Sq.fieldAddr fld27_0 .plain rfl rfl ?_
  refine Sq.loadB one3 .plain rfl rfl hB4 rfl ?_
  refine Sq.build st27 rfl rfl .plain rfl rfl (one_cons rfl one_nil) rfl ?_
  refine Sq.alloc zero27 .plain rfl (fun b24 w25 e26 hB27 hlo28 => ?_)
  have hd29 := Nat.le_trans (Below.size E) hlo28
  have hd30 := Nat.lt_of_lt_of_le hB4.lt hlo28
  have hd31 := Nat.lt_of_lt_of_le hB11.lt hlo28
  have hs32 := Below.size e26
  replace E := E.trans e26
  replace hB4 := hB4.ext e26
  replace hB11 := hB11.ext e26
  replace ho19 := ho19.ext e26
  refine Sq.storeAgg agg27 .plain rfl rfl (one_cons rfl (one_cons rfl (one_cons rfl one_nil))) hB27 rfl rfl (fun w33 g34 hB35 => ?_)
  have hs36 := World.grownBy.size g34
  replace E := E.grown g34 (fun k hk => by injection hk with hk; subst hk; omega)
  replace hB4 := hB4.grown g34 (by intro h; injection h with h; omega)
  replace hB11 := hB11.grown g34 (by intro h; injection h with h; omega)
  replace ho19 := ho19.stored g34 hB27 (by decide)
  replace hB27 := hB35
  refine Sq.nil ?_
  refine Eq.next ?_
  refine Cq.seq ?_
  refine Cq.seq ?_
  refine Cq.region ?_
  refine Sq.assign .plain rfl rfl ?_
  refine Sq.nil ?_
  refine Eq.next ?_
  refine Cq.block ?_
  refine Cq.loop (fun nn w ls => ∃ (i : Int), ∃ (nxv : Value), ∃ (acv : Value), ∃ (xss : List (List Int)), ∃ (ys : List Bool), ls = [(1, Value.pointer (some ⟨b1, 0, none⟩)), (2, Value.pointer (some ⟨b8, 0, none⟩)), (3, v16), (4, Value.pointer (some ⟨b24, 0, none⟩)), (5, Value.int .i64 i)] ∧ (0 ≤ i ∧ i ≤ (ord (goA a) 0 (letters a.al)).length) ∧ Blk w b24 27 [Value.int .i64 a.al, nxv, acv] ∧ OwnRows w w0.heap.size w.heap.size 52 3 nxv xss ∧ Own w w0.heap.size 4 acv (ys.map Value.bool) ∧ xss = ((ord (goA a) 0 (letters a.al)).take i.toNat).map (rowAt (goA a) (letters a.al) (ord (goA a) 0 (letters a.al))) ∧ ys = ((ord (goA a) 0 (letters a.al)).take i.toNat).map (accA a) ∧ Ext w0 w ∧ Blk w b1 27 [Value.int .i64 a.al, nx, ac] ∧ Blk w b8 27 [Value.int .i64 0, Value.slice none 0 0, Value.slice none 0 0] ∧ Own w w9.heap.size 3 v16 ((ord (goA a) 0 (letters a.al)).map (Value.int .i64)) ∧ nn = (((ord (goA a) 0 (letters a.al)).length : Int) - i).toNat) _ _ ⟨0, _, _, [], [], rfl, by omega, hB27, OwnRows.nil _ _ _ _ _, Own.nil _ _ _, rfl, rfl, E, hB4, hB11, ho19, rfl⟩ (.cons rfl (.cons rfl (.cons rfl (.cons rfl (.cons rfl (.nil)))))) ?_
  rintro nn wl1 ls ⟨i, nxv, acv, xss, ys, rfl, hi, hBr, hor, hoa, hxs, hys, E, hB4, hB11, ho19, rfl⟩
  have hs37 := Below.size E
  have hlow := Own.low ho19
  have hat : i < (ord (goA a) 0 (letters a.al)).length → 0 ≤ ((ord (goA a) 0 (letters a.al)).getD i.toNat 0) ∧ ((ord (goA a) 0 (letters a.al)).getD i.toNat 0) < a.next.length := fun h => hall _ (getD_mem (by omega))
  have hxl : xss.length ≤ 20 := by rw [hxs, List.length_map, List.length_take]; omega
  have hyl : ys.length ≤ 20 := by rw [hys, List.length_map, List.length_take]; omega
  refine Cq.seq ?_
  refine Cq.seq ?_
  refine Cq.region ?_
  refine Sq.move .plain rfl rfl ?_
  refine Sq.move .plain rfl rfl ?_
  refine Sq.lenInts (Own.row ho19) .plain rfl und52 rfl ?_
  refine Sq.lss .plain rfl rfl rfl ?_
  refine Sq.part (fun c38 => ?_) (fun c38 => ?_)
  · refine Sq.nil ?_
    refine Eq.next ?_
    refine Cq.thn rfl ?_
    refine Cq.skip ?_
    refine Eq.next ?_
    refine Cq.seq ?_
    refine Cq.block ?_
    refine Cq.seq ?_
    refine Cq.region ?_
    refine Sq.lit sl52 rfl rfl .plain rfl rfl one_nil (fun b39 w40 e41 hlo42 ho43 _ => ?_)
    replace ho43 := ho43 wl1.heap.size (Nat.le_refl _)
    have hs45 := Below.size e41
    replace E := E.trans e41
    replace hB4 := hB4.ext e41
    replace hB11 := hB11.ext e41
    replace ho19 := ho19.ext e41
    replace hBr := hBr.ext e41
    replace hor := hor.ext e41
    replace hoa := hoa.ext e41
    refine Sq.assign .plain rfl rfl ?_
    refine Sq.nil ?_
    refine Eq.next ?_
    refine Cq.seq ?_
    refine Cq.seq ?_
    refine Cq.region ?_
    refine Sq.assign .plain rfl rfl ?_
    refine Sq.nil ?_
    refine Eq.next ?_
    refine Cq.block ?_
    have hq0 := hat (by omega)
    have hvr := valid_row hv (k := ((ord (goA a) 0 (letters a.al)).getD i.toNat 0).toNat) (by omega)
    refine Cq.loop (fun nn w ls => ∃ (k : Int), ∃ (rv : Value), ∃ (row : List Int), ls = [(1, Value.pointer (some ⟨b1, 0, none⟩)), (2, Value.pointer (some ⟨b8, 0, none⟩)), (3, v16), (4, Value.pointer (some ⟨b24, 0, none⟩)), (5, Value.int .i64 i), (6, rv), (7, Value.int .i64 k)] ∧ (0 ≤ k ∧ k ≤ (letters a.al).length) ∧ wl1.heap.size ≤ w.heap.size ∧ Own w wl1.heap.size 3 rv (row.map (Value.int .i64)) ∧ row = rowTo (goA a) (letters a.al) (ord (goA a) 0 (letters a.al)) ((ord (goA a) 0 (letters a.al)).getD i.toNat 0) k.toNat ∧ Ext w0 w ∧ Blk w b1 27 [Value.int .i64 a.al, nx, ac] ∧ Blk w b8 27 [Value.int .i64 0, Value.slice none 0 0, Value.slice none 0 0] ∧ Own w w9.heap.size 3 v16 ((ord (goA a) 0 (letters a.al)).map (Value.int .i64)) ∧ Blk w b24 27 [Value.int .i64 a.al, nxv, acv] ∧ OwnRows w w0.heap.size wl1.heap.size 52 3 nxv xss ∧ Own w w0.heap.size 4 acv (ys.map Value.bool) ∧ nn = ((letters a.al).length - k).toNat) _ _ ⟨0, _, [], rfl, by omega, by omega, ho43, rfl, E, hB4, hB11, ho19, hBr, hor, hoa, rfl⟩ (.cons rfl (.cons rfl (.cons rfl (.cons rfl (.cons rfl (.cons rfl (.cons rfl (.nil)))))))) ?_
    rintro nn wl2 ls ⟨k, rv, row, rfl, hk, hsz, hro, hrow, E, hB4, hB11, ho19, hBr, hor, hoa, rfl⟩
    have hs46 := Below.size E
    have hrl : row.length ≤ 6 := by rw [hrow, rowTo, List.length_map, List.length_take]; omega
    refine Cq.seq ?_
    refine Cq.seq ?_
    refine Cq.draw 11 none mixed (fun w47 e48 => ?_)
    have hs49 := Below.size e48
    replace E := E.trans e48
    replace hB4 := hB4.ext e48
    replace hB11 := hB11.ext e48
    replace ho19 := ho19.ext e48
    replace hBr := hBr.ext e48
    replace hor := hor.ext e48
    replace hoa := hoa.ext e48
    replace hro := hro.ext e48
    have E_w47 := E
    have hB4_w47 := hB4
    have ho19_w47 := ho19
    refine Gq.st 0 rfl (by kernel_rfl) rfl .plain rfl (fun _ _ _ h => h) (World.grownBy.refl w47 _) (fun w' x => Still.move rfl) ?_
    refine Gq.st 1 rfl (by kernel_rfl) rfl .plain rfl (fun _ _ _ h => h) (World.grownBy.refl w47 _) (fun w' x => Still.fieldAddr fld27_1 rfl) ?_
    refine Gq.st 2 rfl (by kernel_rfl) rfl .plain rfl (fun _ _ _ h => h) (World.grownBy.refl w47 _) (fun w' x => Still.loadB one22 rfl (hB4_w47.ext (Ext.of_grown x)) rfl) ?_
    refine Gq.st 3 rfl (by kernel_rfl) rfl .plain rfl (fun _ _ _ h => h) (World.grownBy.refl w47 _) (fun w' x => Still.move rfl) ?_
    refine Gq.st 4 rfl (by kernel_rfl) rfl .plain rfl (fun _ _ _ h => h) (World.grownBy.refl w47 _) (fun w' x => Still.move rfl) ?_
    obtain ⟨p50, hp51_w47⟩ := Ints.at (Own.row ho19_w47) (i := i) (by omega) (by omega)
    have hp51o := AtO.of ho19_w47 hp51_w47
    refine Gq.st 5 rfl (by kernel_rfl) rfl .plain rfl (fun _ _ _ h => h) (World.grownBy.refl w47 _) (fun w' x => Still.at' sl52 hp51_w47 rfl rfl) ?_
    refine Gq.st 6 rfl (by kernel_rfl) rfl .plain rfl (fun _ _ _ h => h) (World.grownBy.refl w47 _) (fun w' x => Still.loadA one3 rfl (hp51_w47.ext (Ext.of_grown x)).1) ?_
    obtain ⟨p52, r54, hp53_w47, hr55⟩ := Rows.at hnx (i := (ord (goA a) 0 (letters a.al)).getD i.toNat 0) (by omega) (by omega)
    refine Gq.st 7 rfl (by kernel_rfl) rfl .plain rfl (fun _ _ _ h => h) (World.grownBy.refl w47 _) (fun w' x => Still.at' sl22 hp53_w47 rfl rfl) ?_
    refine Gq.st 8 rfl (by kernel_rfl) rfl .plain rfl (fun _ _ _ h => h) (World.grownBy.refl w47 _) (fun w' x => Still.loadA one52 rfl (hp53_w47.ext (E_w47.trans (Ext.of_grown x))).1) ?_
    refine Gq.st 9 rfl (by kernel_rfl) rfl .plain rfl (fun _ _ _ h => h) (World.grownBy.refl w47 _) (fun w' x => Still.lenInts (hr55.ext (E_w47.trans (Ext.of_grown x))) und52 rfl) ?_
    refine Gq.st 10 rfl (by kernel_rfl) rfl .plain rfl (fun _ _ _ h => h) (World.grownBy.refl w47 _) (fun w' x => Still.lss rfl rfl) ?_
    refine Gq.part (fun c56 => ?_) (fun c56 => ?_)
    · refine Gq.done (by kernel_rfl) ?_
      refine Eq.next ?_
      refine Cq.thn rfl ?_
      refine Cq.skip ?_
      refine Eq.next ?_
      refine Cq.seq ?_
      refine Cq.block ?_
      have hq0 := hat (by omega)
      obtain ⟨pO, hpO⟩ := Ints.at (Own.row ho19) (i := i) (by omega) (by omega)
      obtain ⟨pR, rR, hpR, hrR⟩ := Rows.at hnx (i := ((ord (goA a) 0 (letters a.al)).getD i.toNat 0)) (by omega) (by omega)
      obtain ⟨pK, hpK⟩ := Ints.at hrR (i := k) (by omega) (by omega)
      have hlowR := Ints.low hrR (by omega)
      replace hpR := hpR.ext E
      replace hpK := hpK.ext E
      have hrg := row_go hv (q := ((ord (goA a) 0 (letters a.al)).getD i.toNat 0).toNat) (k := k.toNat) (by omega) (by omega)
      rw [Int.toNat_of_nonneg hq0.1] at hrg
      have hisin : ((a.next.getD ((ord (goA a) 0 (letters a.al)).getD i.toNat 0).toNat []).getD k.toNat 0) ∈ (ord (goA a) 0 (letters a.al)) := by rw [hrg]; exact ord_closed (by omega) (getD_mem (by omega)) _ (getD_mem (by omega))
      refine Cq.drawS 16 (fun w' => Blk w' b1 27 [Value.int .i64 a.al, nx, ac] ∧ At w' 3 v16 i pO (.int .i64 ((ord (goA a) 0 (letters a.al)).getD i.toNat 0)) ∧ At w' 52 nx ((ord (goA a) 0 (letters a.al)).getD i.toNat 0) pR rR ∧ At w' 3 rR k pK (.int .i64 ((a.next.getD ((ord (goA a) 0 (letters a.al)).getD i.toNat 0).toNat []).getD k.toNat 0))) mixed (⟨hB4, hpO, hpR, hpK⟩) (fun w57 e58 hS => ?_)
      clear hS
      have hs59 := Below.size e58
      replace E := E.trans e58
      replace hB4 := hB4.ext e58
      replace hB11 := hB11.ext e58
      replace ho19 := ho19.ext e58
      replace hBr := hBr.ext e58
      replace hor := hor.ext e58
      replace hoa := hoa.ext e58
      replace hro := hro.ext e58
      replace hpO := hpO.ext e58
      replace hpR := hpR.ext e58
      replace hpK := hpK.ext e58
      refine Gq.st 0 rfl (by kernel_rfl) rfl .plain rfl (fun _ _ _ h => h) ⟨hB4, hpO, hpR, hpK⟩ (fun w' x => Still.move rfl) ?_
      refine Gq.st 1 rfl (by kernel_rfl) rfl .plain rfl (fun _ _ _ h => h) ⟨hB4, hpO, hpR, hpK⟩ (fun w' x => Still.move rfl) ?_
      refine Gq.st 2 rfl (by kernel_rfl) rfl .plain rfl (fun _ _ _ h => h) ⟨hB4, hpO, hpR, hpK⟩ (fun w' x => Still.fieldAddr fld27_1 rfl) ?_
      refine Gq.st 3 rfl (by kernel_rfl) rfl .plain rfl (fun _ _ _ h => h) ⟨hB4, hpO, hpR, hpK⟩ (fun w' x => Still.loadB one22 rfl x.1 rfl) ?_
      refine Gq.st 4 rfl (by kernel_rfl) rfl .plain rfl (fun _ _ _ h => h) ⟨hB4, hpO, hpR, hpK⟩ (fun w' x => Still.move rfl) ?_
      refine Gq.st 5 rfl (by kernel_rfl) rfl .plain rfl (fun _ _ _ h => h) ⟨hB4, hpO, hpR, hpK⟩ (fun w' x => Still.move rfl) ?_
      refine Gq.st 6 rfl (by kernel_rfl) rfl .plain rfl (fun _ _ _ h => h) ⟨hB4, hpO, hpR, hpK⟩ (fun w' x => Still.at' sl52 hpO rfl rfl) ?_
      refine Gq.st 7 rfl (by kernel_rfl) rfl .plain rfl (fun _ _ _ h => h) ⟨hB4, hpO, hpR, hpK⟩ (fun w' x => Still.loadA one3 rfl (x.2.1).1) ?_
      refine Gq.st 8 rfl (by kernel_rfl) rfl .plain rfl (fun _ _ _ h => h) ⟨hB4, hpO, hpR, hpK⟩ (fun w' x => Still.at' sl22 hpR rfl rfl) ?_
      refine Gq.st 9 rfl (by kernel_rfl) rfl .plain rfl (fun _ _ _ h => h) ⟨hB4, hpO, hpR, hpK⟩ (fun w' x => Still.loadA one52 rfl (x.2.2.1).1) ?_
      refine Gq.st 10 rfl (by kernel_rfl) rfl .plain rfl (fun _ _ _ h => h) ⟨hB4, hpO, hpR, hpK⟩ (fun w' x => Still.move rfl) ?_
      refine Gq.st 11 rfl (by kernel_rfl) rfl .plain rfl (fun _ _ _ h => h) ⟨hB4, hpO, hpR, hpK⟩ (fun w' x => Still.at' sl52 hpK rfl rfl) ?_
      refine Gq.st 12 rfl (by kernel_rfl) rfl .plain rfl (fun _ _ _ h => h) ⟨hB4, hpO, hpR, hpK⟩ (fun w' x => Still.loadA one3 rfl (x.2.2.2).1) ?_
      refine Gq.one 13 rfl (by kernel_rfl) ?_
      refine Sq.call fn77 .plain rfl rfl (l5Index_c _ ((ord (goA a) 0 (letters a.al))) _ (Own.row ho19) (((a.next.getD ((ord (goA a) 0 (letters a.al)).getD i.toNat 0).toNat []).getD k.toNat 0)) (by omega) (hisin)) ?_
      rintro _ _ ⟨rfl, rfl⟩
      refine Sq.nil ?_
      refine Eq.goes (fun _ => ⟨hB4, hpO, hpR, hpK⟩) ?_
      refine Gq.one 14 rfl (by kernel_rfl) ?_
      refine Sq.lit sl52 rfl rfl .plain rfl rfl (one_cons rfl one_nil) (fun b60 w61 e62 hlo63 ho64 _ => ?_)
      replace ho64 := ho64 w57.heap.size (Nat.le_refl _)
      have hs66 := Below.size e62
      replace E := E.trans e62
      replace hB4 := hB4.ext e62
      replace hB11 := hB11.ext e62
      replace ho19 := ho19.ext e62
      replace hBr := hBr.ext e62
      replace hor := hor.ext e62
      replace hoa := hoa.ext e62
      replace hro := hro.ext e62
      replace hpO := hpO.ext e62
      replace hpR := hpR.ext e62
      replace hpK := hpK.ext e62
      refine Sq.nil ?_
      refine Eq.goes (fun _ => ⟨hB4, hpO, hpR, hpK⟩) ?_
      refine Gq.one 15 rfl (by kernel_rfl) ?_
      refine Sq.app sl52 hro (by omega) (Own.row ho64) (one_cons rfl one_nil) (by first | omega | (simp; omega)) .plain rfl rfl rfl rfl (fun v67 w68 ho70 g69 => ?_)
      have hs71 := g69.size
      replace E := E.owned hro g69 (by omega)
      replace hB4 := hB4.owned hro g69 (by decide)
      replace hB11 := hB11.owned hro g69 (by decide)
      replace ho19 := ho19.apart hlow hro g69 (by omega)
      replace hBr := hBr.owned hro g69 (by decide)
      replace hor := hor.apart hro g69 (by omega) (by decide)
      replace hoa := hoa.owned hro g69 (by decide)
      replace hpO := hpO.apart hlow hro g69 (by omega)
      replace hpR := hpR.owned hro g69 (by decide)
      replace hpK := hpK.apart hlowR hro g69 (by omega)
      refine Sq.nil ?_
      refine Eq.goes (fun _ => ⟨hB4, hpO, hpR, hpK⟩) ?_
      refine Gq.one 16 rfl (by kernel_rfl) ?_
      refine Sq.assign .plain rfl rfl ?_
      refine Sq.nil ?_
      refine Eq.goes (fun h => absurd h (by decide)) ?_
      refine Gq.done (by kernel_rfl) ?_
      refine Eq.end ?_
      refine Eq.next ?_
      refine Cq.region ?_
      refine Sq.move .plain rfl rfl ?_
      refine Sq.add .plain rfl rfl rfl (by omega) ?_
      refine Sq.assign .plain rfl rfl ?_
      refine Sq.nil ?_
      have e2 := toNat_succ hk.1
      refine Eq.round _ _ ⟨k + 1, _, _, rfl, by omega, by omega, Own.snocI ho70, by rw [e2, rowTo_succ (by omega), ← hrow, hrg], E, hB4, hB11, ho19, hBr, hor, hoa, rfl⟩ (by omega) (.cons rfl (.cons rfl (.cons rfl (.cons rfl (.cons rfl (.cons rfl (.cons rfl (.nil))))))))
    refine Gq.done (by kernel_rfl) ?_
    refine Eq.next ?_
    refine Cq.els rfl ?_
    refine Cq.exit ?_
    refine Eq.past ?_
    refine Eq.past ?_
    refine Eq.hit ?_
    refine Eq.next ?_
    refine Cq.seq ?_
    refine Cq.region ?_
    refine Sq.fieldAddr fld27_1 .plain rfl rfl ?_
    refine Sq.loadB one22 .plain rfl rfl hBr rfl ?_
    refine Sq.move .plain rfl rfl ?_
    obtain ⟨rs76, q77, q78, q79⟩ := OwnRows.open hor (by decide)
    have q79x := Ext.refl w47
    refine Sq.app1 sl22 q77 (by omega) (by rw [q78]; first | omega | (simp; omega)) .plain rfl rfl rfl rfl rfl rfl (Row.one (Own.row hro)) (fun v72 w73 ho75 g74 _ => ?_)
    have hs80 := g74.size
    have ho75r := q79 _ row _ _ _ (Ext.refl _) (Own.mono hro (by omega)) (by omega) ho75 g74
    replace E := E.owned q77 g74 (by omega)
    replace hB4 := hB4.owned q77 g74 (by decide)
    replace hB11 := hB11.owned q77 g74 (by decide)
    replace ho19 := ho19.owned q77 g74 (by decide)
    replace hBr := hBr.owned q77 g74 (by decide)
    replace hoa := hoa.owned q77 g74 (by decide)
    refine Sq.fieldAddr fld27_1 .plain rfl rfl ?_
    refine Sq.store one22 .plain rfl rfl (Rows.one (OwnRows.rows ho75r)) hBr (by simp) (fun w81 g82 hB83 => ?_)
    have hs84 := World.grownBy.size g82
    replace E := E.grown g82 (fun k hk => by injection hk with hk; subst hk; omega)
    replace hB4 := hB4.grown g82 (by intro h; injection h with h; omega)
    replace hB11 := hB11.grown g82 (by intro h; injection h with h; omega)
    replace ho19 := ho19.stored g82 hBr (by decide)
    replace hoa := hoa.stored g82 hBr (by decide)
    replace ho75r := ho75r.stored g82 hBr (by decide) (by decide)
    replace hBr := hB83
    refine Sq.nil ?_
    refine Eq.next ?_
    have hq0 := hat (by omega)
    obtain ⟨pO, hpO⟩ := Ints.at (Own.row ho19) (i := i) (by omega) (by omega)
    refine Cq.drawS 12 (fun w' => Blk w' b1 27 [Value.int .i64 a.al, nx, ac] ∧ Blk w' b24 27 [Value.int .i64 a.al, v72, acv] ∧ At w' 3 v16 i pO (.int .i64 ((ord (goA a) 0 (letters a.al)).getD i.toNat 0)) ∧ Ext w0 w') mixed (⟨hB4, hBr, hpO, E⟩) (fun w85 e86 hS => ?_)
    clear hS
    have hs87 := Below.size e86
    replace E := E.trans e86
    replace hB4 := hB4.ext e86
    replace hB11 := hB11.ext e86
    replace ho19 := ho19.ext e86
    replace hBr := hBr.ext e86
    replace hoa := hoa.ext e86
    replace ho75r := ho75r.ext e86
    replace hpO := hpO.ext e86
    refine Gq.st 0 rfl (by kernel_rfl) rfl .plain rfl (fun _ _ _ h => h) ⟨hB4, hBr, hpO, E⟩ (fun w' x => Still.fieldAddr fld27_2 rfl) ?_
    refine Gq.st 1 rfl (by kernel_rfl) rfl .plain rfl (fun _ _ _ h => h) ⟨hB4, hBr, hpO, E⟩ (fun w' x => Still.loadB one23 rfl x.2.1 rfl) ?_
    refine Gq.st 2 rfl (by kernel_rfl) rfl .plain rfl (fun _ _ _ h => h) ⟨hB4, hBr, hpO, E⟩ (fun w' x => Still.fieldAddr fld27_2 rfl) ?_
    refine Gq.st 3 rfl (by kernel_rfl) rfl .plain rfl (fun _ _ _ h => h) ⟨hB4, hBr, hpO, E⟩ (fun w' x => Still.loadB one23 rfl x.1 rfl) ?_
    refine Gq.st 4 rfl (by kernel_rfl) rfl .plain rfl (fun _ _ _ h => h) ⟨hB4, hBr, hpO, E⟩ (fun w' x => Still.move rfl) ?_
    refine Gq.st 5 rfl (by kernel_rfl) rfl .plain rfl (fun _ _ _ h => h) ⟨hB4, hBr, hpO, E⟩ (fun w' x => Still.move rfl) ?_
    refine Gq.st 6 rfl (by kernel_rfl) rfl .plain rfl (fun _ _ _ h => h) ⟨hB4, hBr, hpO, E⟩ (fun w' x => Still.at' sl52 hpO rfl rfl) ?_
    refine Gq.st 7 rfl (by kernel_rfl) rfl .plain rfl (fun _ _ _ h => h) ⟨hB4, hBr, hpO, E⟩ (fun w' x => Still.loadA one3 rfl (x.2.2.1).1) ?_
    obtain ⟨p88, hp89_w85⟩ := Bools.at hac (i := ((ord (goA a) 0 (letters a.al)).getD i.toNat 0)) (by omega) (by omega)
    refine Gq.st 8 rfl (by kernel_rfl) rfl .plain rfl (fun _ _ _ h => h) ⟨hB4, hBr, hpO, E⟩ (fun w' x => Still.at' sl23 hp89_w85 rfl rfl) ?_
    refine Gq.st 9 rfl (by kernel_rfl) rfl .plain rfl (fun _ _ _ h => h) ⟨hB4, hBr, hpO, E⟩ (fun w' x => Still.loadA one4 rfl (hp89_w85.ext (x.2.2.2)).1) ?_
    refine Gq.one 10 rfl (by kernel_rfl) ?_
    refine Sq.lit sl23 rfl rfl .plain rfl rfl (one_cons rfl one_nil) (fun b90 w91 e92 hlo93 ho94 _ => ?_)
    replace ho94 := ho94 w85.heap.size (Nat.le_refl _)
    have hs96 := Below.size e92
    replace E := E.trans e92
    replace hB4 := hB4.ext e92
    replace hB11 := hB11.ext e92
    replace ho19 := ho19.ext e92
    replace hBr := hBr.ext e92
    replace hoa := hoa.ext e92
    replace ho75r := ho75r.ext e92
    replace hpO := hpO.ext e92
    refine Sq.nil ?_
    refine Eq.goes (fun _ => ⟨hB4, hBr, hpO, E⟩) ?_
    refine Gq.one 11 rfl (by kernel_rfl) ?_
    refine Sq.app sl23 hoa (by omega) (Own.row ho94) (one_cons rfl one_nil) (by first | omega | (simp; omega)) .plain rfl rfl rfl rfl (fun v97 w98 ho100 g99 => ?_)
    have hs101 := g99.size
    replace E := E.owned hoa g99 (by omega)
    replace hB4 := hB4.owned hoa g99 (by decide)
    replace hB11 := hB11.owned hoa g99 (by decide)
    replace ho19 := ho19.owned hoa g99 (by decide)
    replace hBr := hBr.owned hoa g99 (by decide)
    replace ho75r := ho75r.owned hoa g99 (by decide) (by decide)
    replace hpO := hpO.owned hoa g99 (by decide)
    refine Sq.nil ?_
    refine Eq.goes (fun _ => ⟨hB4, hBr, hpO, E⟩) ?_
    refine Gq.one 12 rfl (by kernel_rfl) ?_
    refine Sq.fieldAddr fld27_2 .plain rfl rfl ?_
    refine Sq.nil ?_
    refine Eq.goes (fun h => absurd h (by decide)) ?_
    refine Gq.one 13 rfl (by kernel_rfl) ?_
    refine Sq.store one23 .plain rfl rfl (Row.one (Own.row ho100)) hBr (by simp) (fun w102 g103 hB104 => ?_)
    have hs105 := World.grownBy.size g103
    replace E := E.grown g103 (fun k hk => by injection hk with hk; subst hk; omega)
    replace hB4 := hB4.grown g103 (by intro h; injection h with h; omega)
    replace hB11 := hB11.grown g103 (by intro h; injection h with h; omega)
    replace ho19 := ho19.stored g103 hBr (by decide)
    replace ho75r := ho75r.stored g103 hBr (by decide) (by decide)
    replace ho100 := ho100.stored g103 hBr (by decide)
    replace hBr := hB104
    refine Sq.nil ?_
    refine Eq.goes (fun h => absurd h (by decide)) ?_
    refine Gq.done (by kernel_rfl) ?_
    refine Eq.end ?_
    refine Eq.next ?_
    refine Cq.region ?_
    refine Sq.move .plain rfl rfl ?_
    refine Sq.add .plain rfl rfl rfl (by omega) ?_
    refine Sq.assign .plain rfl rfl ?_
    refine Sq.nil ?_
    have e1 := toNat_succ hi.1
    refine Eq.round _ _ ⟨i + 1, _, _, _, _, rfl, by omega, hBr, OwnRows.now ho75r, Own.snocB ho100, by rw [e1, take_snoc 0 (by omega), List.map_append, ← hxs, hrow, rowTo_done (k := k.toNat) (by omega)]; rfl, by rw [e1, take_snoc 0 (by omega), List.map_append, ← hys]; rfl, E, hB4, hB11, ho19, rfl⟩ (by omega) (.cons rfl (.cons rfl (.cons rfl (.cons rfl (.cons rfl (.nil))))))
  refine Sq.nil ?_
  refine Eq.next ?_
  refine Cq.els rfl ?_
  refine Cq.exit ?_
  refine Eq.past ?_
  refine Eq.past ?_
  refine Eq.hit ?_
  refine Eq.next ?_
  refine Cq.seq ?_
  refine Cq.region ?_
  refine Sq.loadAgg agg27 .plain rfl rfl hBr rfl ?_
  refine Sq.storeAgg agg27 .plain rfl rfl (one_cons rfl (one_cons (Rows.one (OwnRows.rows hor)) (one_cons (Row.one (Own.row hoa)) one_nil))) hB11 rfl rfl (fun w106 g107 hB108 => ?_)
  have hs109 := World.grownBy.size g107
  replace E := E.grown g107 (fun k hk => by injection hk with hk; subst hk; omega)
  replace hor := hor.stored g107 hB11 (by decide) (by decide)
  replace hoa := hoa.stored g107 hB11 (by decide)
  replace hB11 := hB108
  refine Sq.nil ?_
  refine Eq.next ?_
  refine Cq.ret ?_
  refine Eq.retCell rfl rfl agg27 hB11 rfl ?_
  have e : ys = (trim a).acc := by rw [hys, List.take_of_length_le (by omega)]; rfl
  have e2 : xss = (trim a).next := by rw [hxs, List.take_of_length_le (by omega)]; rfl
  rw [e] at hoa
  rw [e2] at hor
  exact ⟨⟨_, _, rfl, OwnRows.now hor, hoa⟩, E⟩
set_option maxRecDepth 100000 in
theorem sTrimA_c (w0 : World) (a : A) (nx ac : Value) (hnx : Rows w0 52 3 nx a.next) (hac : Bools w0 4 ac a.acc) : Ret Try.prog 14 #[Value.agg #[Value.int .i64 a.al, nx, ac]] w0 (fun v w => (∃ u, v = .tuple #[u, .bool (validA a)] ∧ OwnA w w0.heap.size u (if validA a then trim a else zeroA)) ∧ Ext w0 w) := by
  have E := Ext.refl w0
  refine Ret.of (args := [Value.agg #[Value.int .i64 a.al, nx, ac]]) Try.func14 rfl rfl rfl ?_
  rintro _ rfl
  show Cq _ _ _ _ [(0, Value.agg #[Value.int .i64 a.al, nx, ac])] _
  refine Cq.seq ?_
  refine Cq.region ?_
  refine Sq.box .plain rfl rfl (fun b1 w2 e3 hB4 hlo5 => ?_)
  have hd6 := Nat.le_trans (Below.size E) hlo5
  have hs7 := Below.size e3
  replace E := E.trans e3
  refine Sq.alloc zero27 .plain rfl (fun b8 w9 e10 hB11 hlo12 => ?_)
  have hd13 := Nat.le_trans (Below.size E) hlo12
  have hd14 := Nat.lt_of_lt_of_le hB4.lt hlo12
  have hs15 := Below.size e10
  replace E := E.trans e10
  replace hB4 := hB4.ext e10
  refine Sq.assign .plain rfl rfl ?_
  refine Sq.nil ?_
  refine Eq.next ?_
  refine Cq.seq ?_
  refine Cq.seq ?_
  refine Cq.region ?_
  refine Sq.loadAgg agg27 .plain rfl rfl hB4 rfl ?_
  have hd19 := hB4.lt
  have hd20 := hB11.lt
  refine Sq.call fn40 .plain rfl rfl (sValid_c _ a _ _ (hnx.ext E) (hac.ext E)) ?_
  rintro _ w17 ⟨rfl, e18⟩
  have hs21 := Below.size E
  have hs22 := Below.size e18
  replace E := E.trans e18
  replace hB4 := hB4.ext e18
  replace hB11 := hB11.ext e18
  refine Sq.partB (fun hv => ?_) (fun hv => ?_)
  · refine Sq.notT .plain rfl rfl ?_
    refine Sq.nil ?_
    refine Eq.next ?_
    refine Cq.els rfl ?_
    refine Cq.skip ?_
    refine Eq.next ?_
    refine Cq.seq ?_
    refine Cq.region ?_
    refine Sq.loadAgg agg27 .plain rfl rfl hB4 rfl ?_
    have hd30 := hB4.lt
    have hd31 := hB11.lt
    refine Sq.call fn41 .plain rfl rfl (l5Trim_c _ a _ _ (hnx.ext E) (hac.ext E) hv) ?_
    rintro _ w24 ⟨⟨nx26, ac27, rfl, hn28, ha29⟩, e25⟩
    have hs32 := Below.size E
    have hs33 := Below.size e25
    replace E := E.trans e25
    replace hB11 := hB11.ext e25
    refine Sq.storeAgg agg27 .plain rfl rfl (one_cons rfl (one_cons (Rows.one (OwnRows.rows hn28)) (one_cons (Row.one (Own.row ha29)) one_nil))) hB11 rfl rfl (fun w34 g35 hB36 => ?_)
    have hs37 := World.grownBy.size g35
    replace E := E.grown g35 (fun k hk => by injection hk with hk; subst hk; omega)
    replace hn28 := hn28.stored g35 hB11 (by decide) (by decide)
    replace ha29 := ha29.stored g35 hB11 (by decide)
    replace hB11 := hB36
    refine Sq.assign .plain rfl rfl ?_
    refine Sq.nil ?_
    refine Eq.next ?_
    refine Cq.ret ?_
    refine Eq.retCell2 rfl rfl agg27 hB11 rfl rfl ?_
    exact ⟨⟨_, by rw [hv], by rw [if_pos hv]; exact ⟨_, _, rfl, OwnRows.now (OwnRows.mono hn28 (by omega)), Own.mono ha29 (by omega)⟩⟩, E⟩
  refine Sq.notF .plain rfl rfl ?_
  refine Sq.nil ?_
  refine Eq.next ?_
  refine Cq.thn rfl ?_
  refine Cq.seq ?_
  refine Cq.region ?_
  refine Sq.build st27 rfl rfl .plain rfl rfl one_nil rfl ?_
  refine Sq.storeAgg agg27 .plain rfl rfl (one_cons rfl (one_cons rfl (one_cons rfl one_nil))) hB11 rfl rfl (fun w38 g39 hB40 => ?_)
  have hs41 := World.grownBy.size g39
  replace E := E.grown g39 (fun k hk => by injection hk with hk; subst hk; omega)
  replace hB11 := hB40
  refine Sq.assign .plain rfl rfl ?_
  refine Sq.nil ?_
  refine Eq.next ?_
  refine Cq.ret ?_
  refine Eq.pastRet ?_
  refine Eq.retCell2 rfl rfl agg27 hB11 rfl rfl ?_
  exact ⟨⟨_, by rw [hv], by rw [if_neg (by simp [hv])]; exact ⟨_, _, rfl, OwnRows.nil _ _ _ _ _, Own.nil _ _ _⟩⟩, E⟩
theorem sTrimA_c_T (w0 : World) (a : A) (nx ac : Value) (hnx : Rows w0 52 3 nx a.next) (hac : Bools w0 4 ac a.acc) (hC : (validA a) = true) : Ret Try.prog 14 #[Value.agg #[Value.int .i64 a.al, nx, ac]] w0 (fun v w => (∃ u, v = .tuple #[u, .bool true] ∧ OwnA w w0.heap.size u (trim a)) ∧ Ext w0 w) :=
  (sTrimA_c w0 a nx ac hnx hac).mono fun v w h => by rw [hC, if_pos rfl] at h; exact h
theorem sTrimA_c_F (w0 : World) (a : A) (nx ac : Value) (hnx : Rows w0 52 3 nx a.next) (hac : Bools w0 4 ac a.acc) (hC : (validA a) = false) : Ret Try.prog 14 #[Value.agg #[Value.int .i64 a.al, nx, ac]] w0 (fun v w => (∃ u, v = .tuple #[u, .bool false] ∧ OwnA w w0.heap.size u (zeroA)) ∧ Ext w0 w) :=
  (sTrimA_c w0 a nx ac hnx hac).mono fun v w h => by rw [hC, if_neg (by decide)] at h; exact h
end Go.Proofs.Ytdkdpmmfebdeaaa
set_option linter.unusedSimpArgs false
set_option linter.unusedVariables false
namespace Go.Proofs.Ytdkdpmmfebdeaaa
open Go.RowKit
set_option maxRecDepth 100000 in
theorem l3Copy_c (w0 : World) (a : A) (nx ac : Value) (hnx : Rows w0 52 3 nx a.next) (hac : Bools w0 4 ac a.acc) (hf : Fit a) : Ret Try.prog 99 #[Value.agg #[Value.int .i64 a.al, nx, ac]] w0 (fun v w => OwnA w w0.heap.size v a ∧ Ext w0 w) := by
  have E := Ext.refl w0
  refine Ret.of (args := [Value.agg #[Value.int .i64 a.al, nx, ac]]) Try.func99 rfl rfl rfl ?_
  rintro _ rfl
  show Cq _ _ _ _ [(0, Value.agg #[Value.int .i64 a.al, nx, ac])] _
  refine Cq.seq ?_
  refine Cq.region ?_
  refine Sq.box .plain rfl rfl (fun b1 w2 e3 hB4 hlo5 => ?_)
  have hd6 := Nat.le_trans (Below.size E) hlo5
  have hs7 := Below.size e3
  replace E := E.trans e3
  refine Sq.alloc zero27 .plain rfl (fun b8 w9 e10 hB11 hlo12 => ?_)
  have hd13 := Nat.le_trans (Below.size E) hlo12
  have hd14 := Nat.lt_of_lt_of_le hB4.lt hlo12
  have hs15 := Below.size e10
  replace E := E.trans e10
  replace hB4 := hB4.ext e10
  refine Sq.nil ?_
  refine Eq.next ?_
  refine Cq.seq ?_
  refine Cq.cut (fun ls w => ∃ (b3 : Nat), ∃ (ac3 : Value), ls = [(1, Value.pointer (some ⟨b1, 0, none⟩)), (2, Value.pointer (some ⟨b8, 0, none⟩)), (3, Value.pointer (some ⟨b3, 0, none⟩))] ∧ Blk w b3 27 [Value.int .i64 a.al, Value.slice none 0 0, ac3] ∧ (w0.heap.size ≤ b3 ∧ b1 < b3 ∧ b8 < b3) ∧ Own w w0.heap.size 4 ac3 (a.acc.map Value.bool) ∧ Ext w0 w ∧ Blk w b1 27 [Value.int .i64 a.al, nx, ac] ∧ Blk w b8 27 [Value.int .i64 0, Value.slice none 0 0, Value.slice none 0 0]) ?_ ?_
  · refine Cq.draw 8 none mixed (fun w16 e17 => ?_)
    have hs18 := Below.size e17
    replace E := E.trans e17
    replace hB4 := hB4.ext e17
    replace hB11 := hB11.ext e17
    have hB4_w16 := hB4
    refine Gq.st 0 rfl (by kernel_rfl) rfl .plain rfl (fun _ _ _ h => h) (World.grownBy.refl w16 _) (fun w' x => Still.fieldAddr fld27_0 rfl) ?_
    refine Gq.st 1 rfl (by kernel_rfl) rfl .plain rfl (fun _ _ _ h => h) (World.grownBy.refl w16 _) (fun w' x => Still.loadB one3 rfl (hB4_w16.ext (Ext.of_grown x)) rfl) ?_
    refine Gq.st 3 rfl (by kernel_rfl) rfl .plain rfl (fun _ _ _ h => h) (World.grownBy.refl w16 _) (fun w' x => Still.fieldAddr fld27_2 rfl) ?_
    refine Gq.st 4 rfl (by kernel_rfl) rfl .plain rfl (fun _ _ _ h => h) (World.grownBy.refl w16 _) (fun w' x => Still.loadB one23 rfl (hB4_w16.ext (Ext.of_grown x)) rfl) ?_
    refine Gq.two 2 7 rfl rfl (by kernel_rfl) ?_ ?_
    · refine Sq.lit sl23 rfl rfl .plain rfl rfl one_nil (fun b19 w20 e21 hlo22 ho23 _ => ?_)
      replace ho23 := ho23 w16.heap.size (Nat.le_refl _)
      have hs25 := Below.size e21
      replace E := E.trans e21
      replace hB4 := hB4.ext e21
      replace hB11 := hB11.ext e21
      refine Sq.nil ?_
      refine Eq.goes (fun _ => (grown_trans (World.grownBy.refl w16 _) (Ext.to_grown e21 _))) ?_
      refine Gq.two 5 7 rfl rfl (by kernel_rfl) ?_ ?_
      · refine Sq.app sl23 ho23 (by omega) (hac.ext E) (one_bools _) (by rw [List.length_map]; simp only [List.length_nil, Nat.zero_add]; first | (have := hf.acc; omega) | omega) .plain rfl rfl rfl rfl (fun v26 w27 ho29 g28 => ?_)
        have hs30 := g28.size
        replace E := E.owned ho23 g28 (by omega)
        replace hB4 := hB4.owned ho23 g28 (by decide)
        replace hB11 := hB11.owned ho23 g28 (by decide)
        simp only [List.nil_append] at ho29
        refine Sq.nil ?_
        refine Eq.goes (fun _ => (grown_new (grown_trans (World.grownBy.refl w16 _) (Ext.to_grown e21 _)) ho23 g28 (by omega))) ?_
        refine Gq.st 6 rfl (by kernel_rfl) rfl .plain rfl (fun _ _ _ h => h) (grown_new (grown_trans (World.grownBy.refl w16 _) (Ext.to_grown e21 _)) ho23 g28 (by omega)) (fun w' x => Still.build st27 rfl rfl rfl (one_cons rfl (one_cons (Row.one (Own.row ho29)) one_nil)) rfl) ?_
        refine Gq.one 7 rfl (by kernel_rfl) ?_
        refine Sq.alloc zero27 .plain rfl (fun b31 w32 e33 hB34 hlo35 => ?_)
        have hd36 := Nat.le_trans (Below.size E) hlo35
        have hd37 := Nat.lt_of_lt_of_le hB4.lt hlo35
        have hd38 := Nat.lt_of_lt_of_le hB11.lt hlo35
        have hs39 := Below.size e33
        replace E := E.trans e33
        replace hB4 := hB4.ext e33
        replace hB11 := hB11.ext e33
        replace ho29 := ho29.ext e33
        refine Sq.nil ?_
        refine Eq.goes (fun _ => (grown_trans (grown_new (grown_trans (World.grownBy.refl w16 _) (Ext.to_grown e21 _)) ho23 g28 (by omega)) (Ext.to_grown e33 _))) ?_
        refine Gq.one 8 rfl (by kernel_rfl) ?_
        refine Sq.storeAgg agg27 .plain rfl rfl (one_cons rfl (one_cons rfl (one_cons (Row.one (Own.row ho29)) one_nil))) hB34 rfl rfl (fun w40 g41 hB42 => ?_)
        have hs43 := World.grownBy.size g41
        replace E := E.grown g41 (fun k hk => by injection hk with hk; subst hk; omega)
        replace hB4 := hB4.grown g41 (by intro h; injection h with h; omega)
        replace hB11 := hB11.grown g41 (by intro h; injection h with h; omega)
        replace ho29 := ho29.stored g41 hB34 (by decide)
        replace hB34 := hB42
        refine Sq.nil ?_
        refine Eq.goes (fun h => absurd h (by decide)) ?_
        refine Gq.done (by kernel_rfl) ?_
        refine Eq.left _ ⟨b31, v26, rfl, hB34, by omega, Own.mono ho29 (by omega), E, hB4, hB11⟩ (.cons rfl (.cons rfl (.cons rfl (.nil))))
      refine Sq.alloc zero27 .plain rfl (fun b44 w45 e46 hB47 hlo48 => ?_)
      have hd49 := Nat.le_trans (Below.size E) hlo48
      have hd50 := Nat.lt_of_lt_of_le hB4.lt hlo48
      have hd51 := Nat.lt_of_lt_of_le hB11.lt hlo48
      have hs52 := Below.size e46
      replace E := E.trans e46
      replace hB4 := hB4.ext e46
      replace hB11 := hB11.ext e46
      replace ho23 := ho23.ext e46
      refine Sq.nil ?_
      refine Eq.goes (fun _ => (grown_trans (grown_trans (World.grownBy.refl w16 _) (Ext.to_grown e21 _)) (Ext.to_grown e46 _))) ?_
      refine Gq.one 5 rfl (by kernel_rfl) ?_
      refine Sq.app sl23 ho23 (by omega) (hac.ext E) (one_bools _) (by rw [List.length_map]; simp only [List.length_nil, Nat.zero_add]; first | (have := hf.acc; omega) | omega) .plain rfl rfl rfl rfl (fun v53 w54 ho56 g55 => ?_)
      have hs57 := g55.size
      replace E := E.owned ho23 g55 (by omega)
      replace hB4 := hB4.owned ho23 g55 (by decide)
      replace hB11 := hB11.owned ho23 g55 (by decide)
      replace hB47 := hB47.owned ho23 g55 (by decide)
      simp only [List.nil_append] at ho56
      refine Sq.nil ?_
      refine Eq.goes (fun _ => (grown_new (grown_trans (grown_trans (World.grownBy.refl w16 _) (Ext.to_grown e21 _)) (Ext.to_grown e46 _)) ho23 g55 (by omega))) ?_
      refine Gq.st 6 rfl (by kernel_rfl) rfl .plain rfl (fun _ _ _ h => h) (grown_new (grown_trans (grown_trans (World.grownBy.refl w16 _) (Ext.to_grown e21 _)) (Ext.to_grown e46 _)) ho23 g55 (by omega)) (fun w' x => Still.build st27 rfl rfl rfl (one_cons rfl (one_cons (Row.one (Own.row ho56)) one_nil)) rfl) ?_
      refine Gq.one 8 rfl (by kernel_rfl) ?_
      refine Sq.storeAgg agg27 .plain rfl rfl (one_cons rfl (one_cons rfl (one_cons (Row.one (Own.row ho56)) one_nil))) hB47 rfl rfl (fun w58 g59 hB60 => ?_)
      have hs61 := World.grownBy.size g59
      replace E := E.grown g59 (fun k hk => by injection hk with hk; subst hk; omega)
      replace hB4 := hB4.grown g59 (by intro h; injection h with h; omega)
      replace hB11 := hB11.grown g59 (by intro h; injection h with h; omega)
      replace ho56 := ho56.stored g59 hB47 (by decide)
      replace hB47 := hB60
      refine Sq.nil ?_
      refine Eq.goes (fun h => absurd h (by decide)) ?_
      refine Gq.done (by kernel_rfl) ?_
      refine Eq.left _ ⟨b44, v53, rfl, hB47, by omega, Own.mono ho56 (by omega), E, hB4, hB11⟩ (.cons rfl (.cons rfl (.cons rfl (.nil))))
    refine Sq.alloc zero27 .plain rfl (fun b62 w63 e64 hB65 hlo66 => ?_)
    have hd67 := Nat.le_trans (Below.size E) hlo66
    have hd68 := Nat.lt_of_lt_of_le hB4.lt hlo66
    have hd69 := Nat.lt_of_lt_of_le hB11.lt hlo66
    have hs70 := Below.size e64
    replace E := E.trans e64
    replace hB4 := hB4.ext e64
    replace hB11 := hB11.ext e64
    refine Sq.nil ?_
    refine Eq.goes (fun _ => (grown_trans (World.grownBy.refl w16 _) (Ext.to_grown e64 _))) ?_
    refine Gq.one 2 rfl (by kernel_rfl) ?_
    refine Sq.lit sl23 rfl rfl .plain rfl rfl one_nil (fun b71 w72 e73 hlo74 ho75 _ => ?_)
    replace ho75 := ho75 w63.heap.size (Nat.le_refl _)
    have hs77 := Below.size e73
    replace E := E.trans e73
    replace hB4 := hB4.ext e73
    replace hB11 := hB11.ext e73
    replace hB65 := hB65.ext e73
    refine Sq.nil ?_
    refine Eq.goes (fun _ => (grown_trans (grown_trans (World.grownBy.refl w16 _) (Ext.to_grown e64 _)) (Ext.to_grown e73 _))) ?_
    refine Gq.one 5 rfl (by kernel_rfl) ?_
    refine Sq.app sl23 ho75 (by omega) (hac.ext E) (one_bools _) (by rw [List.length_map]; simp only [List.length_nil, Nat.zero_add]; first | (have := hf.acc; omega) | omega) .plain rfl rfl rfl rfl (fun v78 w79 ho81 g80 => ?_)
    have hs82 := g80.size
    replace E := E.owned ho75 g80 (by omega)
    replace hB4 := hB4.owned ho75 g80 (by decide)
    replace hB11 := hB11.owned ho75 g80 (by decide)
    replace hB65 := hB65.owned ho75 g80 (by decide)
    simp only [List.nil_append] at ho81
    refine Sq.nil ?_
    refine Eq.goes (fun _ => (grown_new (grown_trans (grown_trans (World.grownBy.refl w16 _) (Ext.to_grown e64 _)) (Ext.to_grown e73 _)) ho75 g80 (by omega))) ?_
    refine Gq.st 6 rfl (by kernel_rfl) rfl .plain rfl (fun _ _ _ h => h) (grown_new (grown_trans (grown_trans (World.grownBy.refl w16 _) (Ext.to_grown e64 _)) (Ext.to_grown e73 _)) ho75 g80 (by omega)) (fun w' x => Still.build st27 rfl rfl rfl (one_cons rfl (one_cons (Row.one (Own.row ho81)) one_nil)) rfl) ?_
    refine Gq.one 8 rfl (by kernel_rfl) ?_
    refine Sq.storeAgg agg27 .plain rfl rfl (one_cons rfl (one_cons rfl (one_cons (Row.one (Own.row ho81)) one_nil))) hB65 rfl rfl (fun w83 g84 hB85 => ?_)
    have hs86 := World.grownBy.size g84
    replace E := E.grown g84 (fun k hk => by injection hk with hk; subst hk; omega)
    replace hB4 := hB4.grown g84 (by intro h; injection h with h; omega)
    replace hB11 := hB11.grown g84 (by intro h; injection h with h; omega)
    replace ho81 := ho81.stored g84 hB65 (by decide)
    replace hB65 := hB85
    refine Sq.nil ?_
    refine Eq.goes (fun h => absurd h (by decide)) ?_
    refine Gq.done (by kernel_rfl) ?_
    refine Eq.left _ ⟨b62, v78, rfl, hB65, by omega, Own.mono ho81 (by omega), E, hB4, hB11⟩ (.cons rfl (.cons rfl (.cons rfl (.nil))))
  rintro ls wc1 ⟨b3, ac3, rfl, hB3, hb3, hoc, E, hB4, hB11⟩
  have hs87 := Below.size E
  refine Eq.next ?_
  refine Cq.seq ?_
  refine Cq.seq ?_
  refine Cq.region ?_
  refine Sq.assign .plain rfl rfl ?_
  refine Sq.nil ?_
  refine Eq.next ?_
  refine Cq.block ?_
  refine Cq.loop (fun nn w ls => ∃ (k : Int), ∃ (v : Value), ls = [(1, Value.pointer (some ⟨b1, 0, none⟩)), (2, Value.pointer (some ⟨b8, 0, none⟩)), (3, Value.pointer (some ⟨b3, 0, none⟩)), (4, Value.int .i64 k)] ∧ (0 ≤ k ∧ k ≤ a.next.length) ∧ Blk w b3 27 [Value.int .i64 a.al, v, ac3] ∧ OwnRows w w0.heap.size w.heap.size 52 3 v (a.next.take k.toNat) ∧ Ext w0 w ∧ Blk w b1 27 [Value.int .i64 a.al, nx, ac] ∧ Blk w b8 27 [Value.int .i64 0, Value.slice none 0 0, Value.slice none 0 0] ∧ Own w w0.heap.size 4 ac3 (a.acc.map Value.bool) ∧ nn = ((a.next.length : Int) - k).toNat) _ _ ⟨0, _, rfl, by omega, hB3, OwnRows.nil _ _ _ _ _, E, hB4, hB11, hoc, rfl⟩ (.cons rfl (.cons rfl (.cons rfl (.cons rfl (.nil))))) ?_
  rintro nn wl1 ls ⟨k, v, rfl, hk, hB3, hor, E, hB4, hB11, hoc, rfl⟩
  have hs88 := Below.size E
  have hn := hf.2.1
  have hro := Fit.row hf (k := k.toNat)
  refine Cq.seq ?_
  refine Cq.seq ?_
  refine Cq.region ?_
  refine Sq.move .plain rfl rfl ?_
  refine Sq.fieldAddr fld27_1 .plain rfl rfl ?_
  refine Sq.loadB one22 .plain rfl rfl hB4 rfl ?_
  refine Sq.lenRows (hnx.ext E) .plain rfl und22 rfl ?_
  refine Sq.lss .plain rfl rfl rfl ?_
  refine Sq.part (fun c89 => ?_) (fun c89 => ?_)
  · refine Sq.nil ?_
    refine Eq.next ?_
    refine Cq.thn rfl ?_
    refine Cq.skip ?_
    refine Eq.next ?_
    refine Cq.seq ?_
    refine Cq.block ?_
    refine Cq.draw 11 (Value.ownBlock v) mixed (fun w90 e91 => ?_)
    have hs92 := Below.size e91
    replace E := E.trans e91
    replace hB4 := hB4.ext e91
    replace hB11 := hB11.ext e91
    replace hoc := hoc.ext e91
    replace hB3 := hB3.ext e91
    replace hor := hor.ext e91
    have E_w90 := E
    have hB4_w90 := hB4
    have hB3_w90 := hB3
    have hor_w90 := hor
    obtain ⟨_, hor_w90q, _, _⟩ := OwnRows.open hor_w90 (by decide)
    refine Gq.st 0 rfl (by kernel_rfl) rfl .plain rfl (fun _ _ _ h => h) (World.grownBy.refl w90 _) (fun w' x => Still.fieldAddr fld27_1 rfl) ?_
    refine Gq.st 1 rfl (by kernel_rfl) rfl .plain rfl (fun _ _ _ h => h) (World.grownBy.refl w90 _) (fun w' x => Still.loadB one22 rfl (hB3_w90.owned hor_w90q x (by decide)) rfl) ?_
    refine Gq.st 3 rfl (by kernel_rfl) rfl .plain rfl (fun _ _ _ h => h) (World.grownBy.refl w90 _) (fun w' x => Still.fieldAddr fld27_1 rfl) ?_
    refine Gq.st 4 rfl (by kernel_rfl) rfl .plain rfl (fun _ _ _ h => h) (World.grownBy.refl w90 _) (fun w' x => Still.loadB one22 rfl (hB4_w90.owned hor_w90q x (by decide)) rfl) ?_
    refine Gq.st 5 rfl (by kernel_rfl) rfl .plain rfl (fun _ _ _ h => h) (World.grownBy.refl w90 _) (fun w' x => Still.move rfl) ?_
    obtain ⟨p93, r95, hp94_w90, hr96⟩ := Rows.at hnx (i := k) (by omega) (by omega)
    refine Gq.st 6 rfl (by kernel_rfl) rfl .plain rfl (fun _ _ _ h => h) (World.grownBy.refl w90 _) (fun w' x => Still.at' sl22 hp94_w90 rfl rfl) ?_
    refine Gq.st 7 rfl (by kernel_rfl) rfl .plain rfl (fun _ _ _ h => h) (World.grownBy.refl w90 _) (fun w' x => Still.loadA one52 rfl (hp94_w90.ext (E_w90.owned hor_w90q x (by omega))).1) ?_
    refine Gq.one 2 rfl (by kernel_rfl) ?_
    refine Sq.lit sl52 rfl rfl .plain rfl rfl one_nil (fun b97 w98 e99 hlo100 ho101 _ => ?_)
    replace ho101 := ho101 w90.heap.size (Nat.le_refl _)
    have hs103 := Below.size e99
    replace E := E.trans e99
    replace hB4 := hB4.ext e99
    replace hB11 := hB11.ext e99
    replace hoc := hoc.ext e99
    replace hB3 := hB3.ext e99
    replace hor := hor.ext e99
    refine Sq.nil ?_
    refine Eq.goes (fun _ => (grown_trans (World.grownBy.refl w90 _) (Ext.to_grown e99 _))) ?_
    refine Gq.one 8 rfl (by kernel_rfl) ?_
    refine Sq.app sl52 ho101 (by omega) (hr96.ext E) (one_ints _) (by rw [List.length_map]; simp only [List.length_nil, Nat.zero_add]; first | (have := hf.acc; omega) | omega) .plain rfl rfl rfl rfl (fun v104 w105 ho107 g106 => ?_)
    have hs108 := g106.size
    replace E := E.owned ho101 g106 (by omega)
    replace hB4 := hB4.owned ho101 g106 (by decide)
    replace hB11 := hB11.owned ho101 g106 (by decide)
    replace hoc := hoc.owned ho101 g106 (by decide)
    replace hB3 := hB3.owned ho101 g106 (by decide)
    replace hor := hor.apart ho101 g106 (by omega) (by decide)
    simp only [List.nil_append] at ho107
    refine Sq.nil ?_
    refine Eq.goes (fun _ => (grown_new (grown_trans (World.grownBy.refl w90 _) (Ext.to_grown e99 _)) ho101 g106 (by omega))) ?_
    refine Gq.one 9 rfl (by kernel_rfl) ?_
    refine Sq.lit sl22 rfl rfl .plain rfl rfl (one_cons (Row.one (Own.row ho107)) one_nil) (fun b109 w110 e111 hlo112 ho113 _ => ?_)
    replace ho113 := ho113 w105.heap.size (Nat.le_refl _)
    have hs115 := Below.size e111
    replace E := E.trans e111
    replace hB4 := hB4.ext e111
    replace hB11 := hB11.ext e111
    replace hoc := hoc.ext e111
    replace hB3 := hB3.ext e111
    replace hor := hor.ext e111
    replace ho107 := ho107.ext e111
    refine Sq.nil ?_
    refine Eq.goes (fun _ => (grown_trans (grown_new (grown_trans (World.grownBy.refl w90 _) (Ext.to_grown e99 _)) ho101 g106 (by omega)) (Ext.to_grown e111 _))) ?_
    refine Gq.one 10 rfl (by kernel_rfl) ?_
    obtain ⟨rs120, q121, q122, q123⟩ := OwnRows.open hor (by decide)
    have q123x := Ext.refl w110
    refine Sq.app sl22 q121 (by omega) (Own.row ho113) (one_cons (Row.one (Own.row ho107)) one_nil) (by rw [q122]; simp; omega) .plain rfl rfl rfl rfl (fun v116 w117 ho119 g118 => ?_)
    have hs124 := g118.size
    have ho119r := q123 _ (a.next.getD k.toNat []) _ _ _ (Ext.refl _) (Own.mono ho107 (by omega)) (by omega) ho119 g118
    replace E := E.owned q121 g118 (by omega)
    replace hB4 := hB4.owned q121 g118 (by decide)
    replace hB11 := hB11.owned q121 g118 (by decide)
    replace hoc := hoc.owned q121 g118 (by decide)
    replace hB3 := hB3.owned q121 g118 (by decide)
    refine Sq.nil ?_
    refine Eq.goes (fun _ => (grown_trans (grown_trans (grown_new (grown_trans (World.grownBy.refl w90 _) (Ext.to_grown e99 _)) ho101 g106 (by omega)) (Ext.to_grown e111 _)) g118)) ?_
    refine Gq.one 11 rfl (by kernel_rfl) ?_
    refine Sq.fieldAddr fld27_1 .plain rfl rfl ?_
    refine Sq.nil ?_
    refine Eq.goes (fun h => absurd h (by decide)) ?_
    refine Gq.one 12 rfl (by kernel_rfl) ?_
    refine Sq.store one22 .plain rfl rfl (Rows.one (OwnRows.rows ho119r)) hB3 (by simp) (fun w125 g126 hB127 => ?_)
    have hs128 := World.grownBy.size g126
    replace E := E.grown g126 (fun k hk => by injection hk with hk; subst hk; omega)
    replace hB4 := hB4.grown g126 (by intro h; injection h with h; omega)
    replace hB11 := hB11.grown g126 (by intro h; injection h with h; omega)
    replace hoc := hoc.stored g126 hB3 (by decide)
    replace ho119r := ho119r.stored g126 hB3 (by decide) (by decide)
    replace hB3 := hB127
    refine Sq.nil ?_
    refine Eq.goes (fun h => absurd h (by decide)) ?_
    refine Gq.done (by kernel_rfl) ?_
    refine Eq.end ?_
    refine Eq.next ?_
    refine Cq.region ?_
    refine Sq.move .plain rfl rfl ?_
    refine Sq.add .plain rfl rfl rfl (by omega) ?_
    refine Sq.assign .plain rfl rfl ?_
    refine Sq.nil ?_
    have e1 := toNat_succ hk.1
    refine Eq.round _ _ ⟨k + 1, _, rfl, by omega, hB3, by rw [e1, take_snoc [] (by omega)]; exact OwnRows.now ho119r, E, hB4, hB11, hoc, rfl⟩ (by omega) (.cons rfl (.cons rfl (.cons rfl (.cons rfl (.nil)))))
  refine Sq.nil ?_
  refine Eq.next ?_
  refine Cq.els rfl ?_
  refine Cq.exit ?_
  refine Eq.past ?_
  refine Eq.past ?_
  refine Eq.hit ?_
  refine Eq.next ?_
  refine Cq.seq ?_
  refine Cq.region ?_
  refine Sq.loadAgg agg27 .plain rfl rfl hB3 rfl ?_
  refine Sq.storeAgg agg27 .plain rfl rfl (one_cons rfl (one_cons (Rows.one (OwnRows.rows hor)) (one_cons (Row.one (Own.row hoc)) one_nil))) hB11 rfl rfl (fun w129 g130 hB131 => ?_)
  have hs132 := World.grownBy.size g130
  replace E := E.grown g130 (fun k hk => by injection hk with hk; subst hk; omega)
  replace hoc := hoc.stored g130 hB11 (by decide)
  replace hor := hor.stored g130 hB11 (by decide) (by decide)
  replace hB11 := hB131
  refine Sq.nil ?_
  refine Eq.next ?_
  refine Cq.ret ?_
  refine Eq.retCell rfl rfl agg27 hB11 rfl ?_
  have e : a.next.take k.toNat = a.next := List.take_of_length_le (by omega)
  rw [e] at hor
  exact ⟨⟨v, ac3, rfl, OwnRows.now hor, hoc⟩, E⟩
end Go.Proofs.Ytdkdpmmfebdeaaa
set_option linter.unusedSimpArgs false
set_option linter.unusedVariables false
namespace Go.Proofs.Ytdkdpmmfebdeaaa
open Go.RowKit
set_option maxRecDepth 100000 in
theorem l1Text_c (x : Int) (hx : 0 ≤ x ∧ x ≤ 100) (w0 : World) : Ret Try.prog 94 #[Value.int .i64 x] w0 (fun v w => v = .string (chr x) ∧ Ext w0 w) := by
  have E := Ext.refl w0
  refine Ret.of (args := [Value.int .i64 x]) Try.func94 rfl rfl rfl ?_
  rintro _ rfl
  show Cq _ _ _ _ [(0, Value.int .i64 x)] _
  refine Cq.seq ?_
  refine Cq.region ?_
  refine Sq.assign .plain rfl rfl ?_
  refine Sq.nil ?_
  refine Eq.next ?_
  refine Cq.seq ?_
  refine Cq.region ?_
  refine Sq.move .plain rfl rfl ?_
  refine Sq.add .plain rfl rfl rfl (by omega) ?_
  refine Sq.conv8 conv3_5 .plain rfl rfl (by omega) ?_
  refine Sq.lit sl103 rfl rfl .plain rfl rfl (one_cons rfl one_nil) (fun b1 w2 e3 hlo4 ho5 _ => ?_)
  replace ho5 := ho5 w0.heap.size (Nat.le_refl _)
  have hs7 := Below.size e3
  replace E := E.trans e3
  refine Sq.val .plain rfl rfl (Still.text1 und103 und8_103 und9 ho5 (by omega) rfl) ?_
  refine Sq.assign .plain rfl rfl ?_
  refine Sq.nil ?_
  refine Eq.next ?_
  refine Cq.ret ?_
  refine Eq.ret1 rfl rfl ?_
  exact ⟨rfl, E⟩
end Go.Proofs.Ytdkdpmmfebdeaaa
set_option linter.unusedSimpArgs false
set_option linter.unusedVariables false
namespace Go.Proofs.Ytdkdpmmfebdeaaa
open Go.RowKit
set_option maxRecDepth 100000 in
theorem lExTrim (w0 : World) (a : A) (nx ac : Value) (hnx : RowsX w0 nx a.next) (hac : BoolsX w0 ac a.acc) : Ret Try.prog 3 #[Value.agg #[Value.int .i64 a.al, nx, ac]] w0 (fun v w => v = .bool true ∧ Ext w0 w) := by
  have E := Ext.refl w0
  refine Ret.of (args := [Value.agg #[Value.int .i64 a.al, nx, ac]]) Try.func3 rfl rfl rfl ?_
  rintro _ rfl
  show Cq _ _ _ _ [(0, Value.agg #[Value.int .i64 a.al, nx, ac])] _
  refine Cq.seq ?_
  refine Cq.region ?_
  refine Sq.box .plain rfl rfl (fun b1 w2 e3 hB4 hlo5 => ?_)
  have hd6 := Nat.le_trans (Below.size E) hlo5
  have hs7 := Below.size e3
  replace E := E.trans e3
  refine Sq.assign .plain rfl rfl ?_
  refine Sq.nil ?_
  refine Eq.next ?_
  refine Cq.seq ?_
  refine Cq.region ?_
  refine Sq.assign .plain rfl rfl ?_
  refine Sq.nil ?_
  refine Eq.next ?_
  refine Cq.seq ?_
  refine Cq.region ?_
  refine Sq.loadAgg agg25 .plain rfl rfl hB4 rfl ?_
  refine Sq.move .plain rfl rfl ?_
  have hd14 := hB4.lt
  refine Sq.call fn13 .plain rfl rfl (szA_c _ a _ _ (hnx.ext E) (hac.ext E) 1048576 (by omega)) ?_
  rintro _ w9 ⟨⟨z11, rfl, hz12, hsm13⟩, e10⟩
  have hs15 := Below.size E
  have hs16 := Below.size e10
  replace E := E.trans e10
  replace hB4 := hB4.ext e10
  refine Sq.assign .plain rfl rfl ?_
  refine Sq.nil ?_
  refine Eq.next ?_
  refine Cq.seq ?_
  refine Cq.seq ?_
  refine Cq.region ?_
  refine Sq.move .plain rfl rfl ?_
  refine Sq.lss .plain rfl rfl rfl ?_
  refine Sq.part (fun c17 => ?_) (fun c17 => ?_)
  · refine Sq.nil ?_
    refine Eq.next ?_
    refine Cq.thn rfl ?_
    refine Cq.seq ?_
    refine Cq.region ?_
    refine Sq.assign .plain rfl rfl ?_
    refine Sq.nil ?_
    refine Eq.next ?_
    refine Cq.ret ?_
    refine Eq.pastRet ?_
    refine Eq.ret1 rfl rfl ?_
    exact ⟨rfl, E⟩
  refine Sq.nil ?_
  refine Eq.next ?_
  refine Cq.els rfl ?_
  refine Cq.skip ?_
  refine Eq.next ?_
  refine Cq.seq ?_
  refine Cq.region ?_
  refine Sq.loadAgg agg25 .plain rfl rfl hB4 rfl ?_
  have hd25 := hB4.lt
  refine Sq.call fn15 .plain rfl rfl (toA_c _ a _ _ (hnx.ext E) (hac.ext E) (hsm13 (by omega)).2) ?_
  rintro _ w19 ⟨⟨nx21, ac22, rfl, hn23, ha24⟩, e20⟩
  have hs26 := Below.size E
  have hs27 := Below.size e20
  replace E := E.trans e20
  replace hB4 := hB4.ext e20
  have hl_ha24 := Own.low ha24
  rcases Bool.eq_false_or_eq_true (validA a) with hC | hC
  · have hv := hC
    have hd35 := hB4.lt
    refine Sq.call fn14 .plain rfl rfl (sTrimA_c_T _ a _ _ (OwnRows.rows hn23) (Own.row ha24) hC) ?_
    rintro _ w29 ⟨⟨_, rfl, nx31, ac32, rfl, hn33, ha34⟩, e30⟩
    have hs36 := Below.size E
    have hs37 := Below.size e30
    replace E := E.trans e30
    replace hB4 := hB4.ext e30
    have hl_ha34 := Own.low ha34
    refine Sq.move .plain rfl rfl ?_
    refine Sq.extract .plain rfl rfl rfl ?_
    refine Sq.extract .plain rfl rfl rfl ?_
    refine Sq.alloc zero27 .plain rfl (fun b38 w39 e40 hB41 hlo42 => ?_)
    have hd43 := Nat.le_trans (Below.size E) hlo42
    have hd44 := Nat.lt_of_lt_of_le hB4.lt hlo42
    have hs45 := Below.size e40
    replace E := E.trans e40
    replace hB4 := hB4.ext e40
    replace hn33 := hn33.ext e40
    replace ha34 := ha34.ext e40
    refine Sq.storeAgg agg27 .plain rfl rfl (one_cons rfl (one_cons (Rows.one (OwnRows.rows hn33)) (one_cons (Row.one (Own.row ha34)) one_nil))) hB41 rfl rfl (fun w46 g47 hB48 => ?_)
    have hs49 := World.grownBy.size g47
    replace E := E.grown g47 (fun k hk => by injection hk with hk; subst hk; omega)
    replace hB4 := hB4.grown g47 (by intro h; injection h with h; omega)
    replace hn33 := hn33.stored g47 hB41 (by decide) (by decide)
    replace ha34 := ha34.stored g47 hB41 (by decide)
    replace hB41 := hB48
    refine Sq.assign .plain rfl rfl ?_
    refine Sq.nil ?_
    refine Eq.next ?_
    refine Cq.seq ?_
    refine Cq.region ?_
    replace hn33 := OwnRows.rows hn33
    replace ha34 := Own.row ha34
    have Ew := Ext.refl w46
    refine Sq.loadAgg agg25 .plain rfl rfl hB4 rfl ?_
    have hd57 := hB4.lt
    have hd58 := hB41.lt
    refine Sq.call fn15 .plain rfl rfl (toA_c _ a _ _ (hnx.ext E) (hac.ext E) (hsm13 (by omega)).2) ?_
    rintro _ w51 ⟨⟨nx53, ac54, rfl, hn55, ha56⟩, e52⟩
    have hs59 := Below.size E
    have hs60 := Below.size Ew
    have hs61 := Below.size e52
    replace E := E.trans e52
    replace hB4 := hB4.ext e52
    replace hB41 := hB41.ext e52
    replace Ew := Ew.trans e52
    have hl_ha56 := Own.low ha56
    refine Sq.alloc zero27 .plain rfl (fun b62 w63 e64 hB65 hlo66 => ?_)
    have hd67 := Nat.le_trans (Below.size E) hlo66
    have hd68 := Nat.lt_of_lt_of_le hB4.lt hlo66
    have hd69 := Nat.lt_of_lt_of_le hB41.lt hlo66
    have hd70 := Nat.le_trans (Below.size Ew) hlo66
    have hs71 := Below.size e64
    replace E := E.trans e64
    replace hB4 := hB4.ext e64
    replace hB41 := hB41.ext e64
    replace Ew := Ew.trans e64
    replace hn55 := hn55.ext e64
    replace ha56 := ha56.ext e64
    refine Sq.storeAgg agg27 .plain rfl rfl (one_cons rfl (one_cons (Rows.one (OwnRows.rows hn55)) (one_cons (Row.one (Own.row ha56)) one_nil))) hB65 rfl rfl (fun w72 g73 hB74 => ?_)
    have hs75 := World.grownBy.size g73
    replace E := E.grown g73 (fun k hk => by injection hk with hk; subst hk; omega)
    replace hB4 := hB4.grown g73 (by intro h; injection h with h; omega)
    replace hB41 := hB41.grown g73 (by intro h; injection h with h; omega)
    replace Ew := Ew.grown g73 (fun k hk => by injection hk with hk; subst hk; omega)
    replace hn55 := hn55.stored g73 hB65 (by decide) (by decide)
    replace ha56 := ha56.stored g73 hB65 (by decide)
    replace hB65 := hB74
    refine Sq.nil ?_
    refine Eq.next ?_
    refine Cq.seq ?_
    refine Cq.region ?_
    refine Sq.loadAgg agg27 .plain rfl rfl hB65 rfl ?_
    have hd83 := hB4.lt
    have hd84 := hB41.lt
    have hd85 := hB65.lt
    refine Sq.call fn16 .plain rfl rfl (trimA_c_T _ a _ _ (OwnRows.rows hn55) (Own.row ha56) hC) ?_
    rintro _ w77 ⟨⟨_, rfl, nx79, ac80, rfl, hn81, ha82⟩, e78⟩
    have hs86 := Below.size E
    have hs87 := Below.size Ew
    have hs88 := Below.size e78
    replace E := E.trans e78
    replace hB4 := hB4.ext e78
    replace hB41 := hB41.ext e78
    replace Ew := Ew.trans e78
    replace hn55 := hn55.ext e78
    replace ha56 := ha56.ext e78
    replace hB65 := hB65.ext e78
    have hl_ha82 := Own.low ha82
    refine Sq.move .plain rfl rfl ?_
    refine Sq.extract .plain rfl rfl rfl ?_
    refine Sq.extract .plain rfl rfl rfl ?_
    refine Sq.alloc zero27 .plain rfl (fun b89 w90 e91 hB92 hlo93 => ?_)
    have hd94 := Nat.le_trans (Below.size E) hlo93
    have hd95 := Nat.lt_of_lt_of_le hB4.lt hlo93
    have hd96 := Nat.lt_of_lt_of_le hB41.lt hlo93
    have hd97 := Nat.le_trans (Below.size Ew) hlo93
    have hd98 := Nat.lt_of_lt_of_le hB65.lt hlo93
    have hs99 := Below.size e91
    replace E := E.trans e91
    replace hB4 := hB4.ext e91
    replace hB41 := hB41.ext e91
    replace Ew := Ew.trans e91
    replace hn55 := hn55.ext e91
    replace ha56 := ha56.ext e91
    replace hB65 := hB65.ext e91
    replace hn81 := hn81.ext e91
    replace ha82 := ha82.ext e91
    refine Sq.storeAgg agg27 .plain rfl rfl (one_cons rfl (one_cons (Rows.one (OwnRows.rows hn81)) (one_cons (Row.one (Own.row ha82)) one_nil))) hB92 rfl rfl (fun w100 g101 hB102 => ?_)
    have hs103 := World.grownBy.size g101
    replace E := E.grown g101 (fun k hk => by injection hk with hk; subst hk; omega)
    replace hB4 := hB4.grown g101 (by intro h; injection h with h; omega)
    replace hB41 := hB41.grown g101 (by intro h; injection h with h; omega)
    replace Ew := Ew.grown g101 (fun k hk => by injection hk with hk; subst hk; omega)
    replace hn55 := hn55.stored g101 hB92 (by decide) (by decide)
    replace ha56 := ha56.stored g101 hB92 (by decide)
    replace hB65 := hB65.grown g101 (by intro h; injection h with h; omega)
    replace hn81 := hn81.stored g101 hB92 (by decide) (by decide)
    replace ha82 := ha82.stored g101 hB92 (by decide)
    replace hB92 := hB102
    refine Sq.assign .plain rfl rfl ?_
    refine Sq.nil ?_
    refine Eq.next ?_
    refine Cq.seq ?_
    refine Cq.seq ?_
    refine Cq.region ?_
    refine Sq.loadAgg agg27 .plain rfl rfl hB92 rfl ?_
    refine Sq.loadAgg agg27 .plain rfl rfl hB41 rfl ?_
    have hd107 := hB4.lt
    have hd108 := hB41.lt
    have hd109 := hB65.lt
    have hd110 := hB92.lt
    refine Sq.call fn17 .plain rfl rfl (eqAut_c _ (trim a) (trim a) _ _ _ _ (OwnRows.rows hn81) (Own.row ha82) (hn33.ext Ew) (ha34.ext Ew) ((smx_valid (trim_valid hv)))) ?_
    rintro _ w105 ⟨rfl, e106⟩
    have hs111 := Below.size E
    have hs112 := Below.size Ew
    have hs113 := Below.size e106
    replace E := E.trans e106
    replace hB4 := hB4.ext e106
    replace hB41 := hB41.ext e106
    replace Ew := Ew.trans e106
    replace hn55 := hn55.ext e106
    replace ha56 := ha56.ext e106
    replace hB65 := hB65.ext e106
    replace hn81 := hn81.ext e106
    replace ha82 := ha82.ext e106
    replace hB92 := hB92.ext e106
    refine Sq.beT (eqA_refl _) ?_
    refine Sq.notT .plain rfl rfl ?_
    refine Sq.move .plain rfl rfl ?_
    refine Sq.move (.met rfl rfl rfl) rfl rfl ?_
    refine Sq.move (.met rfl rfl rfl) rfl rfl ?_
    refine Sq.neqB und4 (.met rfl rfl rfl) rfl rfl rfl ?_
    refine Sq.pickF .plain rfl rfl rfl ?_
    refine Sq.nil ?_
    refine Eq.next ?_
    refine Cq.els rfl ?_
    refine Cq.skip ?_
    refine Eq.next ?_
    refine Cq.seq ?_
    refine Cq.seq ?_
    refine Cq.draw 5 none mixed (fun w114 e115 => ?_)
    have hs116 := Below.size e115
    replace E := E.trans e115
    replace hB4 := hB4.ext e115
    replace hB41 := hB41.ext e115
    replace Ew := Ew.trans e115
    replace hn55 := hn55.ext e115
    replace ha56 := ha56.ext e115
    replace hB65 := hB65.ext e115
    replace hn81 := hn81.ext e115
    replace ha82 := ha82.ext e115
    replace hB92 := hB92.ext e115
    have hB4_w114 := hB4
    have hB65_w114 := hB65
    refine Gq.st 0 rfl (by kernel_rfl) rfl .plain rfl (fun _ _ _ h => h) (World.grownBy.refl w114 _) (fun w' x => Still.loadAgg agg27 rfl (hB65_w114.ext (Ext.of_grown x)) rfl) ?_
    refine Gq.st 1 rfl (by kernel_rfl) rfl .plain rfl (fun _ _ _ h => h) (World.grownBy.refl w114 _) (fun w' x => Still.loadAgg agg25 rfl (hB4_w114.ext (Ext.of_grown x)) rfl) ?_
    refine Gq.one 2 rfl (by kernel_rfl) ?_
    have hd124 := hB4.lt
    have hd125 := hB41.lt
    have hd126 := hB65.lt
    have hd127 := hB92.lt
    refine Sq.call fn15 .plain rfl rfl (toA_c _ a _ _ (hnx.ext E) (hac.ext E) (hsm13 (by omega)).2) ?_
    rintro _ w118 ⟨⟨nx120, ac121, rfl, hn122, ha123⟩, e119⟩
    have hs128 := Below.size E
    have hs129 := Below.size Ew
    have hs130 := Below.size e119
    replace E := E.trans e119
    replace hB4 := hB4.ext e119
    replace hB41 := hB41.ext e119
    replace Ew := Ew.trans e119
    replace hn55 := hn55.ext e119
    replace ha56 := ha56.ext e119
    replace hB65 := hB65.ext e119
    replace hn81 := hn81.ext e119
    replace ha82 := ha82.ext e119
    replace hB92 := hB92.ext e119
    have hl_ha123 := Own.low ha123
    refine Sq.nil ?_
    refine Eq.goes (fun _ => (grown_trans (World.grownBy.refl w114 _) (Ext.to_grown e119 _))) ?_
    refine Gq.one 3 rfl (by kernel_rfl) ?_
    have hd134 := hB4.lt
    have hd135 := hB41.lt
    have hd136 := hB65.lt
    have hd137 := hB92.lt
    refine Sq.call fn17 .plain rfl rfl (eqAut_c _ a a _ _ _ _ (OwnRows.rows hn55) (Own.row ha56) (OwnRows.rows hn122) (Own.row ha123) ((hsm13 (by omega)).2)) ?_
    rintro _ w132 ⟨rfl, e133⟩
    have hs138 := Below.size E
    have hs139 := Below.size Ew
    have hs140 := Below.size e133
    replace E := E.trans e133
    replace hB4 := hB4.ext e133
    replace hB41 := hB41.ext e133
    replace Ew := Ew.trans e133
    replace hn55 := hn55.ext e133
    replace ha56 := ha56.ext e133
    replace hB65 := hB65.ext e133
    replace hn81 := hn81.ext e133
    replace ha82 := ha82.ext e133
    replace hB92 := hB92.ext e133
    refine Sq.beT (eqA_refl _) ?_
    refine Sq.nil ?_
    refine Eq.goes (fun _ => (grown_trans (grown_trans (World.grownBy.refl w114 _) (Ext.to_grown e119 _)) (Ext.to_grown e133 _))) ?_
    refine Gq.st 4 rfl (by kernel_rfl) rfl .plain rfl (fun _ _ _ h => h) (grown_trans (grown_trans (World.grownBy.refl w114 _) (Ext.to_grown e119 _)) (Ext.to_grown e133 _)) (fun w' x => Still.notT rfl) ?_
    refine Gq.done (by kernel_rfl) ?_
    refine Eq.next ?_
    refine Cq.els rfl ?_
    refine Cq.skip ?_
    refine Eq.next ?_
    refine Cq.seq ?_
    refine Cq.region ?_
    refine Sq.assign .plain rfl rfl ?_
    refine Sq.nil ?_
    refine Eq.next ?_
    refine Cq.seq ?_
    refine Cq.region ?_
    refine Sq.loadAgg agg27 .plain rfl rfl hB65 rfl ?_
    refine Sq.move .plain rfl rfl ?_
    have hcl := cntA_le (hsm13 (by omega)).2
    have hcn143 := cntA_nonneg a
    refine Sq.call fn18 .plain rfl rfl (markA_c _ w46.heap.size w51.heap.size a _ _ 1 hn55 ha56 hl_ha56 (hsm13 (by omega)).2 (by omega)) ?_
    rintro _ w141 ⟨rfl, hn', ha', hwr142⟩
    have hs144 := hwr142.size
    replace E := Ext.wrote E hwr142 (by omega)
    replace hB4 := Blk.wrote hB4 hwr142 (by omega)
    replace hB41 := Blk.wrote hB41 hwr142 (by omega)
    replace Ew := Ext.wrote Ew hwr142 (by omega)
    replace hB65 := Blk.wrote hB65 hwr142 (by omega)
    replace hn81 := OwnRows.wrote hn81 hwr142 (by omega)
    replace ha82 := Own.wrote ha82 hwr142 (by omega)
    replace hB92 := Blk.wrote hB92 hwr142 (by omega)
    clear hn' ha'
    refine Sq.assign .plain rfl rfl ?_
    refine Sq.nil ?_
    refine Eq.next ?_
    refine Cq.seq ?_
    refine Cq.seq ?_
    refine Cq.region ?_
    refine Sq.move .plain rfl rfl ?_
    refine Sq.lss .plain rfl rfl rfl ?_
    refine Sq.isF (by omega) ?_
    refine Sq.move .plain rfl rfl ?_
    refine Sq.loadAgg agg27 (.met rfl rfl rfl) rfl rfl hB92 rfl ?_
    refine Sq.loadAgg agg27 (.met rfl rfl rfl) rfl rfl hB41 rfl ?_
    have hd148 := hB4.lt
    have hd149 := hB41.lt
    have hd150 := hB65.lt
    have hd151 := hB92.lt
    refine Sq.call fn17 (.met rfl rfl rfl) rfl rfl (eqAut_c _ (trim a) (trim a) _ _ _ _ (OwnRows.rows hn81) (Own.row ha82) (hn33.ext Ew) (ha34.ext Ew) ((smx_valid (trim_valid hv)))) ?_
    rintro _ w146 ⟨rfl, e147⟩
    have hs152 := Below.size E
    have hs153 := Below.size Ew
    have hs154 := Below.size e147
    replace E := E.trans e147
    replace hB4 := hB4.ext e147
    replace hB41 := hB41.ext e147
    replace Ew := Ew.trans e147
    replace hB65 := hB65.ext e147
    replace hn81 := hn81.ext e147
    replace ha82 := ha82.ext e147
    replace hB92 := hB92.ext e147
    refine Sq.beT (eqA_refl _) ?_
    refine Sq.notT (.met rfl rfl rfl) rfl rfl ?_
    refine Sq.pickF .plain rfl rfl rfl ?_
    refine Sq.move .plain rfl rfl ?_
    refine Sq.move (.met rfl rfl rfl) rfl rfl ?_
    refine Sq.move (.met rfl rfl rfl) rfl rfl ?_
    refine Sq.neqB und4 (.met rfl rfl rfl) rfl rfl rfl ?_
    refine Sq.pickF .plain rfl rfl rfl ?_
    refine Sq.nil ?_
    refine Eq.next ?_
    refine Cq.els rfl ?_
    refine Cq.skip ?_
    refine Eq.next ?_
    refine Cq.seq ?_
    refine Cq.region ?_
    refine Sq.assign .plain rfl rfl ?_
    refine Sq.nil ?_
    refine Eq.next ?_
    refine Cq.seq ?_
    refine Cq.region ?_
    refine Sq.loadAgg agg27 .plain rfl rfl hB92 rfl ?_
    refine Sq.move .plain rfl rfl ?_
    have hcl := cntA_le (smx_valid (trim_valid hv))
    have hcn157 := cntA_nonneg (trim a)
    refine Sq.call fn18 .plain rfl rfl (markA_c _ w72.heap.size w77.heap.size (trim a) _ _ 1 hn81 ha82 hl_ha82 (smx_valid (trim_valid hv)) (by omega)) ?_
    rintro _ w155 ⟨rfl, hn', ha', hwr156⟩
    have hs158 := hwr156.size
    replace E := Ext.wrote E hwr156 (by omega)
    replace hB4 := Blk.wrote hB4 hwr156 (by omega)
    replace hB41 := Blk.wrote hB41 hwr156 (by omega)
    replace Ew := Ext.wrote Ew hwr156 (by omega)
    replace hB65 := Blk.wrote hB65 hwr156 (by omega)
    replace hB92 := Blk.wrote hB92 hwr156 (by omega)
    replace hn81 := hn'
    replace ha82 := ha'
    clear hn' ha'
    refine Sq.assign .plain rfl rfl ?_
    refine Sq.nil ?_
    refine Eq.next ?_
    refine Cq.seq ?_
    refine Cq.region ?_
    refine Sq.assign .plain rfl rfl ?_
    refine Sq.nil ?_
    refine Eq.next ?_
    refine Cq.seq ?_
    refine Cq.region ?_
    refine Sq.loadAgg agg27 .plain rfl rfl hB92 rfl ?_
    refine Sq.move .plain rfl rfl ?_
    have hd162 := hB4.lt
    have hd163 := hB41.lt
    have hd164 := hB65.lt
    have hd165 := hB92.lt
    refine Sq.call fn19 .plain rfl rfl (heldA_c _ (trim a) _ _ 1 (OwnRows.rows hn81) (Own.row ha82) (smx_valid (trim_valid hv)) (by omega)) ?_
    rintro _ w160 ⟨rfl, e161⟩
    have hs166 := Below.size E
    have hs167 := Below.size Ew
    have hs168 := Below.size e161
    replace E := E.trans e161
    replace hB4 := hB4.ext e161
    replace hB41 := hB41.ext e161
    replace Ew := Ew.trans e161
    replace hB65 := hB65.ext e161
    replace hn81 := hn81.ext e161
    replace ha82 := ha82.ext e161
    replace hB92 := hB92.ext e161
    refine Sq.assign .plain rfl rfl ?_
    refine Sq.nil ?_
    refine Eq.next ?_
    refine Cq.seq ?_
    refine Cq.seq ?_
    refine Cq.region ?_
    refine Sq.move .plain rfl rfl ?_
    refine Sq.lss .plain rfl rfl rfl ?_
    refine Sq.isF (by omega) ?_
    refine Sq.nil ?_
    refine Eq.next ?_
    refine Cq.els rfl ?_
    refine Cq.skip ?_
    refine Eq.next ?_
    refine Cq.seq ?_
    refine Cq.seq ?_
    refine Cq.region ?_
    refine Sq.move .plain rfl rfl ?_
    refine Sq.move .plain rfl rfl ?_
    refine Sq.neq .plain rfl rfl rfl ?_
    refine Sq.isF (by omega) ?_
    refine Sq.nil ?_
    refine Eq.next ?_
    refine Cq.els rfl ?_
    refine Cq.skip ?_
    refine Eq.next ?_
    refine Cq.seq ?_
    refine Cq.region ?_
    refine Sq.loadAgg agg25 .plain rfl rfl hB4 rfl ?_
    have hd176 := hB4.lt
    have hd177 := hB41.lt
    have hd178 := hB65.lt
    have hd179 := hB92.lt
    refine Sq.call fn15 .plain rfl rfl (toA_c _ a _ _ (hnx.ext E) (hac.ext E) (hsm13 (by omega)).2) ?_
    rintro _ w170 ⟨⟨nx172, ac173, rfl, hn174, ha175⟩, e171⟩
    have hs180 := Below.size E
    have hs181 := Below.size Ew
    have hs182 := Below.size e171
    replace E := E.trans e171
    replace hB4 := hB4.ext e171
    replace hB41 := hB41.ext e171
    replace Ew := Ew.trans e171
    replace hB65 := hB65.ext e171
    replace hn81 := hn81.ext e171
    replace ha82 := ha82.ext e171
    replace hB92 := hB92.ext e171
    have hl_ha175 := Own.low ha175
    have hd190 := hB4.lt
    have hd191 := hB41.lt
    have hd192 := hB65.lt
    have hd193 := hB92.lt
    refine Sq.call fn16 .plain rfl rfl (trimA_c_T _ a _ _ (OwnRows.rows hn174) (Own.row ha175) hC) ?_
    rintro _ w184 ⟨⟨_, rfl, nx186, ac187, rfl, hn188, ha189⟩, e185⟩
    have hs194 := Below.size E
    have hs195 := Below.size Ew
    have hs196 := Below.size e185
    replace E := E.trans e185
    replace hB4 := hB4.ext e185
    replace hB41 := hB41.ext e185
    replace Ew := Ew.trans e185
    replace hB65 := hB65.ext e185
    replace hn81 := hn81.ext e185
    replace ha82 := ha82.ext e185
    replace hB92 := hB92.ext e185
    have hl_ha189 := Own.low ha189
    refine Sq.move .plain rfl rfl ?_
    refine Sq.extract .plain rfl rfl rfl ?_
    refine Sq.extract .plain rfl rfl rfl ?_
    refine Sq.alloc zero27 .plain rfl (fun b197 w198 e199 hB200 hlo201 => ?_)
    have hd202 := Nat.le_trans (Below.size E) hlo201
    have hd203 := Nat.lt_of_lt_of_le hB4.lt hlo201
    have hd204 := Nat.lt_of_lt_of_le hB41.lt hlo201
    have hd205 := Nat.le_trans (Below.size Ew) hlo201
    have hd206 := Nat.lt_of_lt_of_le hB65.lt hlo201
    have hd207 := Nat.lt_of_lt_of_le hB92.lt hlo201
    have hs208 := Below.size e199
    replace E := E.trans e199
    replace hB4 := hB4.ext e199
    replace hB41 := hB41.ext e199
    replace Ew := Ew.trans e199
    replace hB65 := hB65.ext e199
    replace hn81 := hn81.ext e199
    replace ha82 := ha82.ext e199
    replace hB92 := hB92.ext e199
    replace hn188 := hn188.ext e199
    replace ha189 := ha189.ext e199
    refine Sq.storeAgg agg27 .plain rfl rfl (one_cons rfl (one_cons (Rows.one (OwnRows.rows hn188)) (one_cons (Row.one (Own.row ha189)) one_nil))) hB200 rfl rfl (fun w209 g210 hB211 => ?_)
    have hs212 := World.grownBy.size g210
    replace E := E.grown g210 (fun k hk => by injection hk with hk; subst hk; omega)
    replace hB4 := hB4.grown g210 (by intro h; injection h with h; omega)
    replace hB41 := hB41.grown g210 (by intro h; injection h with h; omega)
    replace Ew := Ew.grown g210 (fun k hk => by injection hk with hk; subst hk; omega)
    replace hB65 := hB65.grown g210 (by intro h; injection h with h; omega)
    replace hn81 := hn81.stored g210 hB200 (by decide) (by decide)
    replace ha82 := ha82.stored g210 hB200 (by decide)
    replace hB92 := hB92.grown g210 (by intro h; injection h with h; omega)
    replace hn188 := hn188.stored g210 hB200 (by decide) (by decide)
    replace ha189 := ha189.stored g210 hB200 (by decide)
    replace hB200 := hB211
    refine Sq.assign .plain rfl rfl ?_
    refine Sq.nil ?_
    refine Eq.next ?_
    refine Cq.seq ?_
    refine Cq.seq ?_
    refine Cq.region ?_
    refine Sq.loadAgg agg27 .plain rfl rfl hB200 rfl ?_
    refine Sq.loadAgg agg27 .plain rfl rfl hB41 rfl ?_
    have hd216 := hB4.lt
    have hd217 := hB41.lt
    have hd218 := hB65.lt
    have hd219 := hB92.lt
    have hd220 := hB200.lt
    refine Sq.call fn17 .plain rfl rfl (eqAut_c _ (trim a) (trim a) _ _ _ _ (OwnRows.rows hn188) (Own.row ha189) (hn33.ext Ew) (ha34.ext Ew) ((smx_valid (trim_valid hv)))) ?_
    rintro _ w214 ⟨rfl, e215⟩
    have hs221 := Below.size E
    have hs222 := Below.size Ew
    have hs223 := Below.size e215
    replace E := E.trans e215
    replace hB4 := hB4.ext e215
    replace hB41 := hB41.ext e215
    replace Ew := Ew.trans e215
    replace hB65 := hB65.ext e215
    replace hn81 := hn81.ext e215
    replace ha82 := ha82.ext e215
    replace hB92 := hB92.ext e215
    replace hB200 := hB200.ext e215
    refine Sq.beT (eqA_refl _) ?_
    refine Sq.notT .plain rfl rfl ?_
    refine Sq.move .plain rfl rfl ?_
    refine Sq.move (.met rfl rfl rfl) rfl rfl ?_
    refine Sq.move (.met rfl rfl rfl) rfl rfl ?_
    refine Sq.neqB und4 (.met rfl rfl rfl) rfl rfl rfl ?_
    refine Sq.pickF .plain rfl rfl rfl ?_
    refine Sq.nil ?_
    refine Eq.next ?_
    refine Cq.els rfl ?_
    refine Cq.skip ?_
    refine Eq.next ?_
    refine Cq.seq ?_
    refine Cq.region ?_
    refine Sq.assign .plain rfl rfl ?_
    refine Sq.nil ?_
    refine Eq.next ?_
    refine Cq.seq ?_
    refine Cq.region ?_
    refine Sq.loadAgg agg27 .plain rfl rfl hB92 rfl ?_
    refine Sq.move .plain rfl rfl ?_
    have hd227 := hB4.lt
    have hd228 := hB41.lt
    have hd229 := hB65.lt
    have hd230 := hB92.lt
    have hd231 := hB200.lt
    refine Sq.call fn19 .plain rfl rfl (heldA_c _ (trim a) _ _ 1 (OwnRows.rows hn81) (Own.row ha82) (smx_valid (trim_valid hv)) (by omega)) ?_
    rintro _ w225 ⟨rfl, e226⟩
    have hs232 := Below.size E
    have hs233 := Below.size Ew
    have hs234 := Below.size e226
    replace E := E.trans e226
    refine Sq.assign .plain rfl rfl ?_
    refine Sq.nil ?_
    refine Eq.next ?_
    refine Cq.seq ?_
    refine Cq.seq ?_
    refine Cq.region ?_
    refine Sq.move .plain rfl rfl ?_
    refine Sq.lss .plain rfl rfl rfl ?_
    refine Sq.isF (by omega) ?_
    refine Sq.nil ?_
    refine Eq.next ?_
    refine Cq.els rfl ?_
    refine Cq.skip ?_
    refine Eq.next ?_
    refine Cq.seq ?_
    refine Cq.seq ?_
    refine Cq.region ?_
    refine Sq.move .plain rfl rfl ?_
    refine Sq.move .plain rfl rfl ?_
    refine Sq.neq .plain rfl rfl rfl ?_
    refine Sq.isF (by omega) ?_
    refine Sq.nil ?_
    refine Eq.next ?_
    refine Cq.els rfl ?_
    refine Cq.skip ?_
    refine Eq.next ?_
    refine Cq.seq ?_
    refine Cq.region ?_
    refine Sq.assign .plain rfl rfl ?_
    refine Sq.nil ?_
    refine Eq.next ?_
    refine Cq.ret ?_
    refine Eq.ret1 rfl rfl ?_
    exact ⟨rfl, E⟩
  have hd242 := hB4.lt
  refine Sq.call fn14 .plain rfl rfl (sTrimA_c_F _ a _ _ (OwnRows.rows hn23) (Own.row ha24) hC) ?_
  rintro _ w236 ⟨⟨_, rfl, nx238, ac239, rfl, hn240, ha241⟩, e237⟩
  have hs243 := Below.size E
  have hs244 := Below.size e237
  replace E := E.trans e237
  replace hB4 := hB4.ext e237
  have hl_ha241 := Own.low ha241
  refine Sq.move .plain rfl rfl ?_
  refine Sq.extract .plain rfl rfl rfl ?_
  refine Sq.extract .plain rfl rfl rfl ?_
  refine Sq.alloc zero27 .plain rfl (fun b245 w246 e247 hB248 hlo249 => ?_)
  have hd250 := Nat.le_trans (Below.size E) hlo249
  have hd251 := Nat.lt_of_lt_of_le hB4.lt hlo249
  have hs252 := Below.size e247
  replace E := E.trans e247
  replace hB4 := hB4.ext e247
  replace hn240 := hn240.ext e247
  replace ha241 := ha241.ext e247
  refine Sq.storeAgg agg27 .plain rfl rfl (one_cons rfl (one_cons (Rows.one (OwnRows.rows hn240)) (one_cons (Row.one (Own.row ha241)) one_nil))) hB248 rfl rfl (fun w253 g254 hB255 => ?_)
  have hs256 := World.grownBy.size g254
  replace E := E.grown g254 (fun k hk => by injection hk with hk; subst hk; omega)
  replace hB4 := hB4.grown g254 (by intro h; injection h with h; omega)
  replace hn240 := hn240.stored g254 hB248 (by decide) (by decide)
  replace ha241 := ha241.stored g254 hB248 (by decide)
  replace hB248 := hB255
  refine Sq.assign .plain rfl rfl ?_
  refine Sq.nil ?_
  refine Eq.next ?_
  refine Cq.seq ?_
  refine Cq.region ?_
  replace hn240 := OwnRows.rows hn240
  replace ha241 := Own.row ha241
  have Ew := Ext.refl w253
  refine Sq.loadAgg agg25 .plain rfl rfl hB4 rfl ?_
  have hd264 := hB4.lt
  have hd265 := hB248.lt
  refine Sq.call fn15 .plain rfl rfl (toA_c _ a _ _ (hnx.ext E) (hac.ext E) (hsm13 (by omega)).2) ?_
  rintro _ w258 ⟨⟨nx260, ac261, rfl, hn262, ha263⟩, e259⟩
  have hs266 := Below.size E
  have hs267 := Below.size Ew
  have hs268 := Below.size e259
  replace E := E.trans e259
  replace hB4 := hB4.ext e259
  replace hB248 := hB248.ext e259
  replace Ew := Ew.trans e259
  have hl_ha263 := Own.low ha263
  refine Sq.alloc zero27 .plain rfl (fun b269 w270 e271 hB272 hlo273 => ?_)
  have hd274 := Nat.le_trans (Below.size E) hlo273
  have hd275 := Nat.lt_of_lt_of_le hB4.lt hlo273
  have hd276 := Nat.lt_of_lt_of_le hB248.lt hlo273
  have hd277 := Nat.le_trans (Below.size Ew) hlo273
  have hs278 := Below.size e271
  replace E := E.trans e271
  replace hB4 := hB4.ext e271
  replace hB248 := hB248.ext e271
  replace Ew := Ew.trans e271
  replace hn262 := hn262.ext e271
  replace ha263 := ha263.ext e271
  refine Sq.storeAgg agg27 .plain rfl rfl (one_cons rfl (one_cons (Rows.one (OwnRows.rows hn262)) (one_cons (Row.one (Own.row ha263)) one_nil))) hB272 rfl rfl (fun w279 g280 hB281 => ?_)
  have hs282 := World.grownBy.size g280
  replace E := E.grown g280 (fun k hk => by injection hk with hk; subst hk; omega)
  replace hB4 := hB4.grown g280 (by intro h; injection h with h; omega)
  replace hB248 := hB248.grown g280 (by intro h; injection h with h; omega)
  replace Ew := Ew.grown g280 (fun k hk => by injection hk with hk; subst hk; omega)
  replace hn262 := hn262.stored g280 hB272 (by decide) (by decide)
  replace ha263 := ha263.stored g280 hB272 (by decide)
  replace hB272 := hB281
  refine Sq.nil ?_
  refine Eq.next ?_
  refine Cq.seq ?_
  refine Cq.region ?_
  refine Sq.loadAgg agg27 .plain rfl rfl hB272 rfl ?_
  have hd290 := hB4.lt
  have hd291 := hB248.lt
  have hd292 := hB272.lt
  refine Sq.call fn16 .plain rfl rfl (trimA_c_F _ a _ _ (OwnRows.rows hn262) (Own.row ha263) hC) ?_
  rintro _ w284 ⟨⟨_, rfl, nx286, ac287, rfl, hn288, ha289⟩, e285⟩
  have hs293 := Below.size E
  have hs294 := Below.size Ew
  have hs295 := Below.size e285
  replace E := E.trans e285
  replace hB4 := hB4.ext e285
  replace hB248 := hB248.ext e285
  replace Ew := Ew.trans e285
  replace hn262 := hn262.ext e285
  replace ha263 := ha263.ext e285
  replace hB272 := hB272.ext e285
  have hl_ha289 := Own.low ha289
  refine Sq.move .plain rfl rfl ?_
  refine Sq.extract .plain rfl rfl rfl ?_
  refine Sq.extract .plain rfl rfl rfl ?_
  refine Sq.alloc zero27 .plain rfl (fun b296 w297 e298 hB299 hlo300 => ?_)
  have hd301 := Nat.le_trans (Below.size E) hlo300
  have hd302 := Nat.lt_of_lt_of_le hB4.lt hlo300
  have hd303 := Nat.lt_of_lt_of_le hB248.lt hlo300
  have hd304 := Nat.le_trans (Below.size Ew) hlo300
  have hd305 := Nat.lt_of_lt_of_le hB272.lt hlo300
  have hs306 := Below.size e298
  replace E := E.trans e298
  replace hB4 := hB4.ext e298
  replace hB248 := hB248.ext e298
  replace Ew := Ew.trans e298
  replace hn262 := hn262.ext e298
  replace ha263 := ha263.ext e298
  replace hB272 := hB272.ext e298
  replace hn288 := hn288.ext e298
  replace ha289 := ha289.ext e298
  refine Sq.storeAgg agg27 .plain rfl rfl (one_cons rfl (one_cons (Rows.one (OwnRows.rows hn288)) (one_cons (Row.one (Own.row ha289)) one_nil))) hB299 rfl rfl (fun w307 g308 hB309 => ?_)
  have hs310 := World.grownBy.size g308
  replace E := E.grown g308 (fun k hk => by injection hk with hk; subst hk; omega)
  replace hB4 := hB4.grown g308 (by intro h; injection h with h; omega)
  replace hB248 := hB248.grown g308 (by intro h; injection h with h; omega)
  replace Ew := Ew.grown g308 (fun k hk => by injection hk with hk; subst hk; omega)
  replace hn262 := hn262.stored g308 hB299 (by decide) (by decide)
  replace ha263 := ha263.stored g308 hB299 (by decide)
  replace hB272 := hB272.grown g308 (by intro h; injection h with h; omega)
  replace hn288 := hn288.stored g308 hB299 (by decide) (by decide)
  replace ha289 := ha289.stored g308 hB299 (by decide)
  replace hB299 := hB309
  refine Sq.assign .plain rfl rfl ?_
  refine Sq.nil ?_
  refine Eq.next ?_
  refine Cq.seq ?_
  refine Cq.seq ?_
  refine Cq.region ?_
  refine Sq.loadAgg agg27 .plain rfl rfl hB299 rfl ?_
  refine Sq.loadAgg agg27 .plain rfl rfl hB248 rfl ?_
  have hd314 := hB4.lt
  have hd315 := hB248.lt
  have hd316 := hB272.lt
  have hd317 := hB299.lt
  refine Sq.call fn17 .plain rfl rfl (eqAut_c _ zeroA zeroA _ _ _ _ (OwnRows.rows hn288) (Own.row ha289) (hn240.ext Ew) (ha241.ext Ew) (smx_zero)) ?_
  rintro _ w312 ⟨rfl, e313⟩
  have hs318 := Below.size E
  have hs319 := Below.size Ew
  have hs320 := Below.size e313
  replace E := E.trans e313
  replace hB4 := hB4.ext e313
  replace hB248 := hB248.ext e313
  replace Ew := Ew.trans e313
  replace hn262 := hn262.ext e313
  replace ha263 := ha263.ext e313
  replace hB272 := hB272.ext e313
  replace hn288 := hn288.ext e313
  replace ha289 := ha289.ext e313
  replace hB299 := hB299.ext e313
  refine Sq.beT (eqA_refl _) ?_
  refine Sq.notT .plain rfl rfl ?_
  refine Sq.move .plain rfl rfl ?_
  refine Sq.move (.met rfl rfl rfl) rfl rfl ?_
  refine Sq.move (.met rfl rfl rfl) rfl rfl ?_
  refine Sq.neqB und4 (.met rfl rfl rfl) rfl rfl rfl ?_
  refine Sq.pickF .plain rfl rfl rfl ?_
  refine Sq.nil ?_
  refine Eq.next ?_
  refine Cq.els rfl ?_
  refine Cq.skip ?_
  refine Eq.next ?_
  refine Cq.seq ?_
  refine Cq.seq ?_
  refine Cq.draw 5 none mixed (fun w321 e322 => ?_)
  have hs323 := Below.size e322
  replace E := E.trans e322
  replace hB4 := hB4.ext e322
  replace hB248 := hB248.ext e322
  replace Ew := Ew.trans e322
  replace hn262 := hn262.ext e322
  replace ha263 := ha263.ext e322
  replace hB272 := hB272.ext e322
  replace hn288 := hn288.ext e322
  replace ha289 := ha289.ext e322
  replace hB299 := hB299.ext e322
  have hB4_w321 := hB4
  have hB272_w321 := hB272
  refine Gq.st 0 rfl (by kernel_rfl) rfl .plain rfl (fun _ _ _ h => h) (World.grownBy.refl w321 _) (fun w' x => Still.loadAgg agg27 rfl (hB272_w321.ext (Ext.of_grown x)) rfl) ?_
  refine Gq.st 1 rfl (by kernel_rfl) rfl .plain rfl (fun _ _ _ h => h) (World.grownBy.refl w321 _) (fun w' x => Still.loadAgg agg25 rfl (hB4_w321.ext (Ext.of_grown x)) rfl) ?_
  refine Gq.one 2 rfl (by kernel_rfl) ?_
  have hd331 := hB4.lt
  have hd332 := hB248.lt
  have hd333 := hB272.lt
  have hd334 := hB299.lt
  refine Sq.call fn15 .plain rfl rfl (toA_c _ a _ _ (hnx.ext E) (hac.ext E) (hsm13 (by omega)).2) ?_
  rintro _ w325 ⟨⟨nx327, ac328, rfl, hn329, ha330⟩, e326⟩
  have hs335 := Below.size E
  have hs336 := Below.size Ew
  have hs337 := Below.size e326
  replace E := E.trans e326
  replace hB4 := hB4.ext e326
  replace hB248 := hB248.ext e326
  replace Ew := Ew.trans e326
  replace hn262 := hn262.ext e326
  replace ha263 := ha263.ext e326
  replace hB272 := hB272.ext e326
  replace hn288 := hn288.ext e326
  replace ha289 := ha289.ext e326
  replace hB299 := hB299.ext e326
  have hl_ha330 := Own.low ha330
  refine Sq.nil ?_
  refine Eq.goes (fun _ => (grown_trans (World.grownBy.refl w321 _) (Ext.to_grown e326 _))) ?_
  refine Gq.one 3 rfl (by kernel_rfl) ?_
  have hd341 := hB4.lt
  have hd342 := hB248.lt
  have hd343 := hB272.lt
  have hd344 := hB299.lt
  refine Sq.call fn17 .plain rfl rfl (eqAut_c _ a a _ _ _ _ (OwnRows.rows hn262) (Own.row ha263) (OwnRows.rows hn329) (Own.row ha330) ((hsm13 (by omega)).2)) ?_
  rintro _ w339 ⟨rfl, e340⟩
  have hs345 := Below.size E
  have hs346 := Below.size Ew
  have hs347 := Below.size e340
  replace E := E.trans e340
  replace hB4 := hB4.ext e340
  replace hB248 := hB248.ext e340
  replace Ew := Ew.trans e340
  replace hn262 := hn262.ext e340
  replace ha263 := ha263.ext e340
  replace hB272 := hB272.ext e340
  replace hn288 := hn288.ext e340
  replace ha289 := ha289.ext e340
  replace hB299 := hB299.ext e340
  refine Sq.beT (eqA_refl _) ?_
  refine Sq.nil ?_
  refine Eq.goes (fun _ => (grown_trans (grown_trans (World.grownBy.refl w321 _) (Ext.to_grown e326 _)) (Ext.to_grown e340 _))) ?_
  refine Gq.st 4 rfl (by kernel_rfl) rfl .plain rfl (fun _ _ _ h => h) (grown_trans (grown_trans (World.grownBy.refl w321 _) (Ext.to_grown e326 _)) (Ext.to_grown e340 _)) (fun w' x => Still.notT rfl) ?_
  refine Gq.done (by kernel_rfl) ?_
  refine Eq.next ?_
  refine Cq.els rfl ?_
  refine Cq.skip ?_
  refine Eq.next ?_
  refine Cq.seq ?_
  refine Cq.region ?_
  refine Sq.assign .plain rfl rfl ?_
  refine Sq.nil ?_
  refine Eq.next ?_
  refine Cq.seq ?_
  refine Cq.region ?_
  refine Sq.loadAgg agg27 .plain rfl rfl hB272 rfl ?_
  refine Sq.move .plain rfl rfl ?_
  have hcl := cntA_le (hsm13 (by omega)).2
  have hcn350 := cntA_nonneg a
  refine Sq.call fn18 .plain rfl rfl (markA_c _ w253.heap.size w258.heap.size a _ _ 1 hn262 ha263 hl_ha263 (hsm13 (by omega)).2 (by omega)) ?_
  rintro _ w348 ⟨rfl, hn', ha', hwr349⟩
  have hs351 := hwr349.size
  replace E := Ext.wrote E hwr349 (by omega)
  replace hB4 := Blk.wrote hB4 hwr349 (by omega)
  replace hB248 := Blk.wrote hB248 hwr349 (by omega)
  replace Ew := Ext.wrote Ew hwr349 (by omega)
  replace hB272 := Blk.wrote hB272 hwr349 (by omega)
  replace hn288 := OwnRows.wrote hn288 hwr349 (by omega)
  replace ha289 := Own.wrote ha289 hwr349 (by omega)
  replace hB299 := Blk.wrote hB299 hwr349 (by omega)
  clear hn' ha'
  refine Sq.assign .plain rfl rfl ?_
  refine Sq.nil ?_
  refine Eq.next ?_
  refine Cq.seq ?_
  refine Cq.seq ?_
  refine Cq.region ?_
  refine Sq.move .plain rfl rfl ?_
  refine Sq.lss .plain rfl rfl rfl ?_
  refine Sq.isF (by omega) ?_
  refine Sq.move .plain rfl rfl ?_
  refine Sq.loadAgg agg27 (.met rfl rfl rfl) rfl rfl hB299 rfl ?_
  refine Sq.loadAgg agg27 (.met rfl rfl rfl) rfl rfl hB248 rfl ?_
  have hd355 := hB4.lt
  have hd356 := hB248.lt
  have hd357 := hB272.lt
  have hd358 := hB299.lt
  refine Sq.call fn17 (.met rfl rfl rfl) rfl rfl (eqAut_c _ zeroA zeroA _ _ _ _ (OwnRows.rows hn288) (Own.row ha289) (hn240.ext Ew) (ha241.ext Ew) (smx_zero)) ?_
  rintro _ w353 ⟨rfl, e354⟩
  have hs359 := Below.size E
  have hs360 := Below.size Ew
  have hs361 := Below.size e354
  replace E := E.trans e354
  replace hB4 := hB4.ext e354
  replace hB248 := hB248.ext e354
  replace Ew := Ew.trans e354
  replace hB272 := hB272.ext e354
  replace hn288 := hn288.ext e354
  replace ha289 := ha289.ext e354
  replace hB299 := hB299.ext e354
  refine Sq.beT (eqA_refl _) ?_
  refine Sq.notT (.met rfl rfl rfl) rfl rfl ?_
  refine Sq.pickF .plain rfl rfl rfl ?_
  refine Sq.move .plain rfl rfl ?_
  refine Sq.move (.met rfl rfl rfl) rfl rfl ?_
  refine Sq.move (.met rfl rfl rfl) rfl rfl ?_
  refine Sq.neqB und4 (.met rfl rfl rfl) rfl rfl rfl ?_
  refine Sq.pickF .plain rfl rfl rfl ?_
  refine Sq.nil ?_
  refine Eq.next ?_
  refine Cq.els rfl ?_
  refine Cq.skip ?_
  refine Eq.next ?_
  refine Cq.seq ?_
  refine Cq.region ?_
  refine Sq.assign .plain rfl rfl ?_
  refine Sq.nil ?_
  refine Eq.next ?_
  refine Cq.seq ?_
  refine Cq.region ?_
  refine Sq.loadAgg agg27 .plain rfl rfl hB299 rfl ?_
  refine Sq.move .plain rfl rfl ?_
  have hcl := cntA_le smx_zero
  have hcn364 := cntA_nonneg zeroA
  refine Sq.call fn18 .plain rfl rfl (markA_c _ w279.heap.size w284.heap.size zeroA _ _ 1 hn288 ha289 hl_ha289 smx_zero (by omega)) ?_
  rintro _ w362 ⟨rfl, hn', ha', hwr363⟩
  have hs365 := hwr363.size
  replace E := Ext.wrote E hwr363 (by omega)
  replace hB4 := Blk.wrote hB4 hwr363 (by omega)
  replace hB248 := Blk.wrote hB248 hwr363 (by omega)
  replace Ew := Ext.wrote Ew hwr363 (by omega)
  replace hB272 := Blk.wrote hB272 hwr363 (by omega)
  replace hB299 := Blk.wrote hB299 hwr363 (by omega)
  replace hn288 := hn'
  replace ha289 := ha'
  clear hn' ha'
  refine Sq.assign .plain rfl rfl ?_
  refine Sq.nil ?_
  refine Eq.next ?_
  refine Cq.seq ?_
  refine Cq.region ?_
  refine Sq.assign .plain rfl rfl ?_
  refine Sq.nil ?_
  refine Eq.next ?_
  refine Cq.seq ?_
  refine Cq.region ?_
  refine Sq.loadAgg agg27 .plain rfl rfl hB299 rfl ?_
  refine Sq.move .plain rfl rfl ?_
  have hd369 := hB4.lt
  have hd370 := hB248.lt
  have hd371 := hB272.lt
  have hd372 := hB299.lt
  refine Sq.call fn19 .plain rfl rfl (heldA_c _ zeroA _ _ 1 (OwnRows.rows hn288) (Own.row ha289) smx_zero (by omega)) ?_
  rintro _ w367 ⟨rfl, e368⟩
  have hs373 := Below.size E
  have hs374 := Below.size Ew
  have hs375 := Below.size e368
  replace E := E.trans e368
  replace hB4 := hB4.ext e368
  replace hB248 := hB248.ext e368
  replace Ew := Ew.trans e368
  replace hB272 := hB272.ext e368
  replace hn288 := hn288.ext e368
  replace ha289 := ha289.ext e368
  replace hB299 := hB299.ext e368
  refine Sq.assign .plain rfl rfl ?_
  refine Sq.nil ?_
  refine Eq.next ?_
  refine Cq.seq ?_
  refine Cq.seq ?_
  refine Cq.region ?_
  refine Sq.move .plain rfl rfl ?_
  refine Sq.lss .plain rfl rfl rfl ?_
  refine Sq.isF (by omega) ?_
  refine Sq.nil ?_
  refine Eq.next ?_
  refine Cq.els rfl ?_
  refine Cq.skip ?_
  refine Eq.next ?_
  refine Cq.seq ?_
  refine Cq.seq ?_
  refine Cq.region ?_
  refine Sq.move .plain rfl rfl ?_
  refine Sq.move .plain rfl rfl ?_
  refine Sq.neq .plain rfl rfl rfl ?_
  refine Sq.isF (by omega) ?_
  refine Sq.nil ?_
  refine Eq.next ?_
  refine Cq.els rfl ?_
  refine Cq.skip ?_
  refine Eq.next ?_
  refine Cq.seq ?_
  refine Cq.region ?_
  refine Sq.loadAgg agg25 .plain rfl rfl hB4 rfl ?_
  have hd383 := hB4.lt
  have hd384 := hB248.lt
  have hd385 := hB272.lt
  have hd386 := hB299.lt
  refine Sq.call fn15 .plain rfl rfl (toA_c _ a _ _ (hnx.ext E) (hac.ext E) (hsm13 (by omega)).2) ?_
  rintro _ w377 ⟨⟨nx379, ac380, rfl, hn381, ha382⟩, e378⟩
  have hs387 := Below.size E
  have hs388 := Below.size Ew
  have hs389 := Below.size e378
  replace E := E.trans e378
  replace hB4 := hB4.ext e378
  replace hB248 := hB248.ext e378
  replace Ew := Ew.trans e378
  replace hB272 := hB272.ext e378
  replace hn288 := hn288.ext e378
  replace ha289 := ha289.ext e378
  replace hB299 := hB299.ext e378
  have hl_ha382 := Own.low ha382
  have hd397 := hB4.lt
  have hd398 := hB248.lt
  have hd399 := hB272.lt
  have hd400 := hB299.lt
  refine Sq.call fn16 .plain rfl rfl (trimA_c_F _ a _ _ (OwnRows.rows hn381) (Own.row ha382) hC) ?_
  rintro _ w391 ⟨⟨_, rfl, nx393, ac394, rfl, hn395, ha396⟩, e392⟩
  have hs401 := Below.size E
  have hs402 := Below.size Ew
  have hs403 := Below.size e392
  replace E := E.trans e392
  replace hB4 := hB4.ext e392
  replace hB248 := hB248.ext e392
  replace Ew := Ew.trans e392
  replace hB272 := hB272.ext e392
  replace hn288 := hn288.ext e392
  replace ha289 := ha289.ext e392
  replace hB299 := hB299.ext e392
  have hl_ha396 := Own.low ha396
  refine Sq.move .plain rfl rfl ?_
  refine Sq.extract .plain rfl rfl rfl ?_
  refine Sq.extract .plain rfl rfl rfl ?_
  refine Sq.alloc zero27 .plain rfl (fun b404 w405 e406 hB407 hlo408 => ?_)
  have hd409 := Nat.le_trans (Below.size E) hlo408
  have hd410 := Nat.lt_of_lt_of_le hB4.lt hlo408
  have hd411 := Nat.lt_of_lt_of_le hB248.lt hlo408
  have hd412 := Nat.le_trans (Below.size Ew) hlo408
  have hd413 := Nat.lt_of_lt_of_le hB272.lt hlo408
  have hd414 := Nat.lt_of_lt_of_le hB299.lt hlo408
  have hs415 := Below.size e406
  replace E := E.trans e406
  replace hB4 := hB4.ext e406
  replace hB248 := hB248.ext e406
  replace Ew := Ew.trans e406
  replace hB272 := hB272.ext e406
  replace hn288 := hn288.ext e406
  replace ha289 := ha289.ext e406
  replace hB299 := hB299.ext e406
  replace hn395 := hn395.ext e406
  replace ha396 := ha396.ext e406
  refine Sq.storeAgg agg27 .plain rfl rfl (one_cons rfl (one_cons (Rows.one (OwnRows.rows hn395)) (one_cons (Row.one (Own.row ha396)) one_nil))) hB407 rfl rfl (fun w416 g417 hB418 => ?_)
  have hs419 := World.grownBy.size g417
  replace E := E.grown g417 (fun k hk => by injection hk with hk; subst hk; omega)
  replace hB4 := hB4.grown g417 (by intro h; injection h with h; omega)
  replace hB248 := hB248.grown g417 (by intro h; injection h with h; omega)
  replace Ew := Ew.grown g417 (fun k hk => by injection hk with hk; subst hk; omega)
  replace hB272 := hB272.grown g417 (by intro h; injection h with h; omega)
  replace hn288 := hn288.stored g417 hB407 (by decide) (by decide)
  replace ha289 := ha289.stored g417 hB407 (by decide)
  replace hB299 := hB299.grown g417 (by intro h; injection h with h; omega)
  replace hn395 := hn395.stored g417 hB407 (by decide) (by decide)
  replace ha396 := ha396.stored g417 hB407 (by decide)
  replace hB407 := hB418
  refine Sq.assign .plain rfl rfl ?_
  refine Sq.nil ?_
  refine Eq.next ?_
  refine Cq.seq ?_
  refine Cq.seq ?_
  refine Cq.region ?_
  refine Sq.loadAgg agg27 .plain rfl rfl hB407 rfl ?_
  refine Sq.loadAgg agg27 .plain rfl rfl hB248 rfl ?_
  have hd423 := hB4.lt
  have hd424 := hB248.lt
  have hd425 := hB272.lt
  have hd426 := hB299.lt
  have hd427 := hB407.lt
  refine Sq.call fn17 .plain rfl rfl (eqAut_c _ zeroA zeroA _ _ _ _ (OwnRows.rows hn395) (Own.row ha396) (hn240.ext Ew) (ha241.ext Ew) (smx_zero)) ?_
  rintro _ w421 ⟨rfl, e422⟩
  have hs428 := Below.size E
  have hs429 := Below.size Ew
  have hs430 := Below.size e422
  replace E := E.trans e422
  replace hB4 := hB4.ext e422
  replace hB248 := hB248.ext e422
  replace Ew := Ew.trans e422
  replace hB272 := hB272.ext e422
  replace hn288 := hn288.ext e422
  replace ha289 := ha289.ext e422
  replace hB299 := hB299.ext e422
  replace hB407 := hB407.ext e422
  refine Sq.beT (eqA_refl _) ?_
  refine Sq.notT .plain rfl rfl ?_
  refine Sq.move .plain rfl rfl ?_
  refine Sq.move (.met rfl rfl rfl) rfl rfl ?_
  refine Sq.move (.met rfl rfl rfl) rfl rfl ?_
  refine Sq.neqB und4 (.met rfl rfl rfl) rfl rfl rfl ?_
  refine Sq.pickF .plain rfl rfl rfl ?_
  refine Sq.nil ?_
  refine Eq.next ?_
  refine Cq.els rfl ?_
  refine Cq.skip ?_
  refine Eq.next ?_
  refine Cq.seq ?_
  refine Cq.region ?_
  refine Sq.assign .plain rfl rfl ?_
  refine Sq.nil ?_
  refine Eq.next ?_
  refine Cq.seq ?_
  refine Cq.region ?_
  refine Sq.loadAgg agg27 .plain rfl rfl hB299 rfl ?_
  refine Sq.move .plain rfl rfl ?_
  have hd434 := hB4.lt
  have hd435 := hB248.lt
  have hd436 := hB272.lt
  have hd437 := hB299.lt
  have hd438 := hB407.lt
  refine Sq.call fn19 .plain rfl rfl (heldA_c _ zeroA _ _ 1 (OwnRows.rows hn288) (Own.row ha289) smx_zero (by omega)) ?_
  rintro _ w432 ⟨rfl, e433⟩
  have hs439 := Below.size E
  have hs440 := Below.size Ew
  have hs441 := Below.size e433
  replace E := E.trans e433
  refine Sq.assign .plain rfl rfl ?_
  refine Sq.nil ?_
  refine Eq.next ?_
  refine Cq.seq ?_
  refine Cq.seq ?_
  refine Cq.region ?_
  refine Sq.move .plain rfl rfl ?_
  refine Sq.lss .plain rfl rfl rfl ?_
  refine Sq.isF (by omega) ?_
  refine Sq.nil ?_
  refine Eq.next ?_
  refine Cq.els rfl ?_
  refine Cq.skip ?_
  refine Eq.next ?_
  refine Cq.seq ?_
  refine Cq.seq ?_
  refine Cq.region ?_
  refine Sq.move .plain rfl rfl ?_
  refine Sq.move .plain rfl rfl ?_
  refine Sq.neq .plain rfl rfl rfl ?_
  refine Sq.isF (by omega) ?_
  refine Sq.nil ?_
  refine Eq.next ?_
  refine Cq.els rfl ?_
  refine Cq.skip ?_
  refine Eq.next ?_
  refine Cq.seq ?_
  refine Cq.region ?_
  refine Sq.assign .plain rfl rfl ?_
  refine Sq.nil ?_
  refine Eq.next ?_
  refine Cq.ret ?_
  refine Eq.ret1 rfl rfl ?_
  exact ⟨rfl, E⟩
end Go.Proofs.Ytdkdpmmfebdeaaa
set_option linter.unusedSimpArgs false
set_option linter.unusedVariables false
namespace Go.Proofs.Ytdkdpmmfebdeaaa
open Go.RowKit
set_option maxRecDepth 100000 in
theorem l5Accepts_c (x y : Bool) (k : Int) (w0 : World) : Ret Try.prog 55 #[Value.bool x, Value.bool y, Value.int .i64 k] w0 (fun v w => v = .bool (kindB k x y) ∧ w0 = w) := by
  refine Ret.of (args := [Value.bool x, Value.bool y, Value.int .i64 k]) Try.func55 rfl rfl rfl ?_
  rintro _ rfl
  show Cq _ _ _ _ [(0, Value.bool x), (1, Value.bool y), (2, Value.int .i64 k)] _
  refine Cq.seq ?_
  refine Cq.region ?_
  refine Sq.assign .plain rfl rfl ?_
  refine Sq.nil ?_
  refine Eq.next ?_
  refine Cq.seq ?_
  refine Cq.seq ?_
  refine Cq.region ?_
  refine Sq.move .plain rfl rfl ?_
  refine Sq.nil ?_
  refine Eq.next ?_
  refine Cq.block ?_
  refine Cq.seq ?_
  refine Cq.region ?_
  refine Sq.eql .plain rfl rfl rfl ?_
  refine Sq.part (fun h0 => ?_) (fun h0 => ?_)
  · refine Sq.assign .plain rfl rfl ?_
    refine Sq.nil ?_
    refine Eq.next ?_
    refine Cq.thn rfl ?_
    refine Cq.seq ?_
    refine Cq.region ?_
    refine Sq.move .plain rfl rfl ?_
    refine Sq.partB (fun hx => ?_) (fun hx => ?_)
    · refine Sq.move .plain rfl rfl ?_
      refine Sq.move (.met rfl rfl rfl) rfl rfl ?_
      refine Sq.pickT .plain rfl rfl rfl ?_
      refine Sq.assign .plain rfl rfl ?_
      refine Sq.nil ?_
      refine Eq.next ?_
      refine Cq.ret ?_
      refine Eq.outRet ?_
      refine Eq.pastRet ?_
      refine Eq.ret1 rfl rfl ?_
      exact ⟨by simp only [kindB, h0, hx]; first | done | rfl | simp, rfl⟩
    refine Sq.move .plain rfl rfl ?_
    refine Sq.off rfl rfl rfl rfl rfl rfl ?_
    refine Sq.pickF .plain rfl rfl rfl ?_
    refine Sq.assign .plain rfl rfl ?_
    refine Sq.nil ?_
    refine Eq.next ?_
    refine Cq.ret ?_
    refine Eq.outRet ?_
    refine Eq.pastRet ?_
    refine Eq.ret1 rfl rfl ?_
    exact ⟨by simp only [kindB, h0, hx]; first | done | rfl | simp, rfl⟩
  refine Sq.assign .plain rfl rfl ?_
  refine Sq.nil ?_
  refine Eq.next ?_
  refine Cq.els rfl ?_
  refine Cq.seq ?_
  refine Cq.region ?_
  refine Sq.eql .plain rfl rfl rfl ?_
  refine Sq.part (fun h1 => ?_) (fun h1 => ?_)
  · refine Sq.assign .plain rfl rfl ?_
    refine Sq.nil ?_
    refine Eq.next ?_
    refine Cq.thn rfl ?_
    refine Cq.seq ?_
    refine Cq.region ?_
    refine Sq.move .plain rfl rfl ?_
    refine Sq.partB (fun hx => ?_) (fun hx => ?_)
    · refine Sq.move .plain rfl rfl ?_
      refine Sq.off rfl rfl rfl rfl rfl rfl ?_
      refine Sq.pickT .plain rfl rfl rfl ?_
      refine Sq.assign .plain rfl rfl ?_
      refine Sq.nil ?_
      refine Eq.next ?_
      refine Cq.ret ?_
      refine Eq.outRet ?_
      refine Eq.pastRet ?_
      refine Eq.ret1 rfl rfl ?_
      exact ⟨by simp only [kindB, h0, h1, hx]; first | done | rfl | simp, rfl⟩
    refine Sq.move .plain rfl rfl ?_
    refine Sq.move (.met rfl rfl rfl) rfl rfl ?_
    refine Sq.pickF .plain rfl rfl rfl ?_
    refine Sq.assign .plain rfl rfl ?_
    refine Sq.nil ?_
    refine Eq.next ?_
    refine Cq.ret ?_
    refine Eq.outRet ?_
    refine Eq.pastRet ?_
    refine Eq.ret1 rfl rfl ?_
    exact ⟨by simp only [kindB, h0, h1, hx]; first | done | rfl | simp, rfl⟩
  refine Sq.assign .plain rfl rfl ?_
  refine Sq.nil ?_
  refine Eq.next ?_
  refine Cq.els rfl ?_
  refine Cq.skip ?_
  refine Eq.end ?_
  refine Eq.next ?_
  refine Cq.seq ?_
  refine Cq.region ?_
  refine Sq.move .plain rfl rfl ?_
  refine Sq.partB (fun hx => ?_) (fun hx => ?_)
  · refine Sq.move .plain rfl rfl ?_
    refine Sq.move (.met rfl rfl rfl) rfl rfl ?_
    refine Sq.not (.met rfl rfl rfl) rfl rfl ?_
    refine Sq.pickT .plain rfl rfl rfl ?_
    refine Sq.assign .plain rfl rfl ?_
    refine Sq.nil ?_
    refine Eq.next ?_
    refine Cq.ret ?_
    refine Eq.ret1 rfl rfl ?_
    exact ⟨by simp only [kindB, h0, h1, hx]; first | done | rfl | simp, rfl⟩
  refine Sq.move .plain rfl rfl ?_
  refine Sq.off rfl rfl rfl rfl rfl rfl ?_
  refine Sq.off rfl rfl rfl rfl rfl rfl ?_
  refine Sq.pickF .plain rfl rfl rfl ?_
  refine Sq.assign .plain rfl rfl ?_
  refine Sq.nil ?_
  refine Eq.next ?_
  refine Cq.ret ?_
  refine Eq.ret1 rfl rfl ?_
  exact ⟨by simp only [kindB, h0, h1, hx]; first | done | rfl | simp, rfl⟩
set_option maxRecDepth 100000 in
theorem l5Find_c (w0 : World) (B : Nat) (v : Value) (ps : List (Int × Int)) (hW : Wid w0 B 55 2 v (rows2 ps)) (p : Int × Int) (hl : ps.length ≤ 1000000) : Ret Try.prog 54 #[v, Value.agg #[Value.int .i64 p.1, Value.int .i64 p.2]] w0 (fun v w => v = .int .i64 (findI ps p) ∧ Ext w0 w) := by
  have E := Ext.refl w0
  refine Ret.of (args := [v, Value.agg #[Value.int .i64 p.1, Value.int .i64 p.2]]) Try.func54 rfl rfl rfl ?_
  rintro _ rfl
  show Cq _ _ _ _ [(0, v), (1, Value.agg #[Value.int .i64 p.1, Value.int .i64 p.2])] _
  refine Cq.seq ?_
  refine Cq.region ?_
  refine Sq.box .plain rfl rfl (fun b1 w2 e3 hB4 hlo5 => ?_)
  have hd6 := Nat.le_trans (Below.size E) hlo5
  have hs7 := Below.size e3
  replace E := E.trans e3
  replace hW := hW.ext e3
  refine Sq.assign .plain rfl rfl ?_
  refine Sq.nil ?_
  refine Eq.next ?_
  refine Cq.seq ?_
  refine Cq.seq ?_
  refine Cq.region ?_
  refine Sq.assign .plain rfl rfl ?_
  refine Sq.nil ?_
  refine Eq.next ?_
  refine Cq.block ?_
  refine Cq.loop (fun nn w ls => ∃ (k : Int), ls = [(0, v), (3, Value.pointer (some ⟨b1, 0, none⟩)), (5, Value.int .i64 k)] ∧ (0 ≤ k ∧ k ≤ ps.length) ∧ p ∉ ps.take k.toNat ∧ Ext w0 w ∧ Wid w B 55 2 v (rows2 ps) ∧ Blk w b1 55 [Value.int .i64 p.1, Value.int .i64 p.2] ∧ nn = ((ps.length : Int) - k).toNat) _ _ ⟨0, rfl, by omega, by simp, E, hW, hB4, rfl⟩ (.cons rfl (.cons rfl (.cons rfl (.nil)))) ?_
  rintro nn wl1 ls ⟨k, rfl, hk, hp, E, hW, hB4, rfl⟩
  have hs8 := Below.size E
  refine Cq.seq ?_
  refine Cq.seq ?_
  refine Cq.region ?_
  refine Sq.move .plain rfl rfl ?_
  refine Sq.move .plain rfl rfl ?_
  refine Sq.lenWid hW .plain rfl und56 rfl ?_
  rw [rows2_length]
  refine Sq.lss .plain rfl rfl rfl ?_
  refine Sq.part (fun c9 => ?_) (fun c9 => ?_)
  · refine Sq.nil ?_
    refine Eq.next ?_
    refine Cq.thn rfl ?_
    refine Cq.skip ?_
    refine Eq.next ?_
    refine Cq.seq ?_
    refine Cq.block ?_
    refine Cq.seq ?_
    refine Cq.draw 18 none mixed (fun w10 e11 => ?_)
    have hs12 := Below.size e11
    replace E := E.trans e11
    replace hW := hW.ext e11
    replace hB4 := hB4.ext e11
    have hW_w10 := hW
    have hB4_w10 := hB4
    refine Gq.st 0 rfl (by kernel_rfl) rfl .plain rfl (fun _ _ _ h => h) (World.grownBy.refl w10 _) (fun w' x => Still.move rfl) ?_
    refine Gq.st 1 rfl (by kernel_rfl) rfl .plain rfl (fun _ _ _ h => h) (World.grownBy.refl w10 _) (fun w' x => Still.move rfl) ?_
    obtain ⟨ghgw13, chgw13, hgw13⟩ := Wid.pair hW_w10 (i := k) (by omega) (by omega)
    refine Gq.st 2 rfl (by kernel_rfl) rfl .plain rfl (fun _ _ _ h => h) (World.grownBy.refl w10 _) (fun w' x => Still.ixV slw56 hgw13 rfl rfl (by omega)) ?_
    refine Gq.st 3 rfl (by kernel_rfl) rfl .plain rfl (fun _ _ _ h => h) (World.grownBy.refl w10 _) (fun w' x => Still.fieldAddr fld55_0 rfl) ?_
    refine Gq.st 4 rfl (by kernel_rfl) rfl .plain rfl (fun _ _ _ h => h) (World.grownBy.refl w10 _) (fun w' x => Still.load one3 rfl (Wid.cell2 hgw13 (hW_w10.ext (Ext.of_grown x)) (by omega) (by omega)).1) ?_
    refine Gq.st 5 rfl (by kernel_rfl) rfl .plain rfl (fun _ _ _ h => h) (World.grownBy.refl w10 _) (fun w' x => Still.fieldAddr fld55_0 rfl) ?_
    refine Gq.st 6 rfl (by kernel_rfl) rfl .plain rfl (fun _ _ _ h => h) (World.grownBy.refl w10 _) (fun w' x => Still.loadB one3 rfl (hB4_w10.ext (Ext.of_grown x)) rfl) ?_
    refine Gq.st 7 rfl (by kernel_rfl) rfl .plain rfl (fun _ _ _ h => h) (World.grownBy.refl w10 _) (fun w' x => Still.eql rfl rfl) ?_
    refine Gq.part (fun h1 => ?_) (fun h1 => ?_)
    · refine Gq.st 8 rfl (by kernel_rfl) rfl .plain rfl (fun _ _ _ h => h) (World.grownBy.refl w10 _) (fun w' x => Still.move rfl) ?_
      refine Gq.st 9 rfl (by kernel_rfl) rfl (.met rfl rfl rfl) rfl (fun _ _ _ h => h) (World.grownBy.refl w10 _) (fun w' x => Still.move rfl) ?_
      refine Gq.st 10 rfl (by kernel_rfl) rfl (.met rfl rfl rfl) rfl (fun _ _ _ h => h) (World.grownBy.refl w10 _) (fun w' x => Still.move rfl) ?_
      obtain ⟨ghgw14, chgw14, hgw14⟩ := Wid.pair hW_w10 (i := k) (by omega) (by omega)
      refine Gq.st 11 rfl (by kernel_rfl) rfl (.met rfl rfl rfl) rfl (fun _ _ _ h => h) (World.grownBy.refl w10 _) (fun w' x => Still.ixV slw56 hgw14 rfl rfl (by omega)) ?_
      refine Gq.st 12 rfl (by kernel_rfl) rfl (.met rfl rfl rfl) rfl (fun _ _ _ h => h) (World.grownBy.refl w10 _) (fun w' x => Still.fieldAddr fld55_1 rfl) ?_
      refine Gq.st 13 rfl (by kernel_rfl) rfl (.met rfl rfl rfl) rfl (fun _ _ _ h => h) (World.grownBy.refl w10 _) (fun w' x => Still.load one3 rfl (Wid.cell2 hgw14 (hW_w10.ext (Ext.of_grown x)) (by omega) (by omega)).2) ?_
      refine Gq.st 14 rfl (by kernel_rfl) rfl (.met rfl rfl rfl) rfl (fun _ _ _ h => h) (World.grownBy.refl w10 _) (fun w' x => Still.fieldAddr fld55_1 rfl) ?_
      refine Gq.st 15 rfl (by kernel_rfl) rfl (.met rfl rfl rfl) rfl (fun _ _ _ h => h) (World.grownBy.refl w10 _) (fun w' x => Still.loadB one3 rfl (hB4_w10.ext (Ext.of_grown x)) rfl) ?_
      refine Gq.st 16 rfl (by kernel_rfl) rfl (.met rfl rfl rfl) rfl (fun _ _ _ h => h) (World.grownBy.refl w10 _) (fun w' x => Still.eql rfl rfl) ?_
      refine Gq.part (fun h2 => ?_) (fun h2 => ?_)
      · refine Gq.st 17 rfl (by kernel_rfl) rfl .plain rfl (fun _ _ _ h => h) (World.grownBy.refl w10 _) (fun w' x => Still.pickT rfl rfl) ?_
        refine Gq.done (by kernel_rfl) ?_
        refine Eq.next ?_
        refine Cq.thn rfl ?_
        refine Cq.seq ?_
        refine Cq.region ?_
        refine Sq.move .plain rfl rfl ?_
        refine Sq.assign .plain rfl rfl ?_
        refine Sq.nil ?_
        refine Eq.next ?_
        refine Cq.ret ?_
        refine Eq.outRet ?_
        refine Eq.pastRet ?_
        refine Eq.pastRet ?_
        refine Eq.outRet ?_
        refine Eq.pastRet ?_
        refine Eq.ret1 rfl rfl ?_
        have e := idx_here2 hp (by omega) (Prod.ext h1 h2)
        exact ⟨by rw [e]; congr 1; omega, E⟩
      refine Gq.st 17 rfl (by kernel_rfl) rfl .plain rfl (fun _ _ _ h => h) (World.grownBy.refl w10 _) (fun w' x => Still.pickT rfl rfl) ?_
      refine Gq.done (by kernel_rfl) ?_
      refine Eq.next ?_
      refine Cq.els rfl ?_
      refine Cq.skip ?_
      refine Eq.end ?_
      refine Eq.next ?_
      refine Cq.region ?_
      refine Sq.move .plain rfl rfl ?_
      refine Sq.add .plain rfl rfl rfl (by omega) ?_
      refine Sq.assign .plain rfl rfl ?_
      refine Sq.nil ?_
      have e1 := toNat_succ hk.1
      refine Eq.round _ _ ⟨k + 1, rfl, by omega, by rw [e1]; exact notin_snoc2 hp (by omega) (fun e => h2 (by rw [e])), E, hW, hB4, rfl⟩ (by omega) (.cons rfl (.cons rfl (.cons rfl (.nil))))
    refine Gq.st 8 rfl (by kernel_rfl) rfl .plain rfl (fun _ _ _ h => h) (World.grownBy.refl w10 _) (fun w' x => Still.move rfl) ?_
    refine Gq.off 9 rfl (by kernel_rfl) rfl rfl rfl rfl rfl rfl (fun _ _ _ h => h) (World.grownBy.refl w10 _) ?_
    refine Gq.off 10 rfl (by kernel_rfl) rfl rfl rfl rfl rfl rfl (fun _ _ _ h => h) (World.grownBy.refl w10 _) ?_
    refine Gq.off 11 rfl (by kernel_rfl) rfl rfl rfl rfl rfl rfl (fun _ _ _ h => h) (World.grownBy.refl w10 _) ?_
    refine Gq.off 12 rfl (by kernel_rfl) rfl rfl rfl rfl rfl rfl (fun _ _ _ h => h) (World.grownBy.refl w10 _) ?_
    refine Gq.off 13 rfl (by kernel_rfl) rfl rfl rfl rfl rfl rfl (fun _ _ _ h => h) (World.grownBy.refl w10 _) ?_
    refine Gq.off 14 rfl (by kernel_rfl) rfl rfl rfl rfl rfl rfl (fun _ _ _ h => h) (World.grownBy.refl w10 _) ?_
    refine Gq.off 15 rfl (by kernel_rfl) rfl rfl rfl rfl rfl rfl (fun _ _ _ h => h) (World.grownBy.refl w10 _) ?_
    refine Gq.off 16 rfl (by kernel_rfl) rfl rfl rfl rfl rfl rfl (fun _ _ _ h => h) (World.grownBy.refl w10 _) ?_
    refine Gq.st 17 rfl (by kernel_rfl) rfl .plain rfl (fun _ _ _ h => h) (World.grownBy.refl w10 _) (fun w' x => Still.pickF rfl rfl) ?_
    refine Gq.done (by kernel_rfl) ?_
    refine Eq.next ?_
    refine Cq.els rfl ?_
    refine Cq.skip ?_
    refine Eq.end ?_
    refine Eq.next ?_
    refine Cq.region ?_
    refine Sq.move .plain rfl rfl ?_
    refine Sq.add .plain rfl rfl rfl (by omega) ?_
    refine Sq.assign .plain rfl rfl ?_
    refine Sq.nil ?_
    have e1 := toNat_succ hk.1
    refine Eq.round _ _ ⟨k + 1, rfl, by omega, by rw [e1]; exact notin_snoc2 hp (by omega) (fun e => h1 (by rw [e])), E, hW, hB4, rfl⟩ (by omega) (.cons rfl (.cons rfl (.cons rfl (.nil))))
  refine Sq.nil ?_
  refine Eq.next ?_
  refine Cq.els rfl ?_
  refine Cq.exit ?_
  refine Eq.past ?_
  refine Eq.past ?_
  refine Eq.hit ?_
  refine Eq.next ?_
  refine Cq.seq ?_
  refine Cq.region ?_
  refine Sq.assign .plain rfl rfl ?_
  refine Sq.nil ?_
  refine Eq.next ?_
  refine Cq.ret ?_
  refine Eq.ret1 rfl rfl ?_
  exact ⟨by rw [find_none2 hp (by omega)], E⟩
end Go.Proofs.Ytdkdpmmfebdeaaa
set_option linter.unusedSimpArgs false
set_option linter.unusedVariables false
namespace Go.Proofs.Ytdkdpmmfebdeaaa
open Go.RowKit
set_option maxHeartbeats 1000000 in
set_option maxRecDepth 100000 in
theorem sProd_c (w0 : World) (a b : A) (nx ac nx' ac' : Value) (hnx : Rows w0 52 3 nx a.next) (hac : Bools w0 4 ac a.acc) (hnx' : Rows w0 52 3 nx' b.next) (hac' : Bools w0 4 ac' b.acc) (k : Int) : Ret Try.prog 20 #[Value.agg #[Value.int .i64 a.al, nx, ac], Value.agg #[Value.int .i64 b.al, nx', ac'], Value.int .i64 k] w0 (fun v w => (∃ u, v = .tuple #[u, .bool (prodOk a b k)] ∧ OwnA w w0.heap.size u (if prodOk a b k then prodA a b k else zeroA)) ∧ Ext w0 w) := by
  have E := Ext.refl w0
  refine Ret.of (args := [Value.agg #[Value.int .i64 a.al, nx, ac], Value.agg #[Value.int .i64 b.al, nx', ac'], Value.int .i64 k]) Try.func20 rfl rfl rfl ?_
  rintro _ rfl
  show Cq _ _ _ _ [(0, Value.agg #[Value.int .i64 a.al, nx, ac]), (1, Value.agg #[Value.int .i64 b.al, nx', ac']), (2, Value.int .i64 k)] _
  refine Cq.seq ?_
  refine Cq.region ?_
  refine Sq.box .plain rfl rfl (fun b1 w2 e3 hB4 hlo5 => ?_)
  have hd6 := Nat.le_trans (Below.size E) hlo5
  have hs7 := Below.size e3
  replace E := E.trans e3
  refine Sq.box .plain rfl rfl (fun b8 w9 e10 hB11 hlo12 => ?_)
  have hd13 := Nat.le_trans (Below.size E) hlo12
  have hd14 := Nat.lt_of_lt_of_le hB4.lt hlo12
  have hs15 := Below.size e10
  replace E := E.trans e10
  replace hB4 := hB4.ext e10
  refine Sq.alloc zero27 .plain rfl (fun b16 w17 e18 hB19 hlo20 => ?_)
  have hd21 := Nat.le_trans (Below.size E) hlo20
  have hd22 := Nat.lt_of_lt_of_le hB4.lt hlo20
  have hd23 := Nat.lt_of_lt_of_le hB11.lt hlo20
  have hs24 := Below.size e18
  replace E := E.trans e18
  replace hB4 := hB4.ext e18
  replace hB11 := hB11.ext e18
  refine Sq.assign .plain rfl rfl ?_
  refine Sq.nil ?_
  refine Eq.next ?_
  refine Cq.seq ?_
  refine Cq.seq ?_
  refine Cq.region ?_
  refine Sq.loadAgg agg27 .plain rfl rfl hB4 rfl ?_
  have hd28 := hB4.lt
  have hd29 := hB11.lt
  have hd30 := hB19.lt
  refine Sq.call fn40 .plain rfl rfl (sValid_c _ a _ _ (hnx.ext E) (hac.ext E)) ?_
  rintro _ w26 ⟨rfl, e27⟩
  have hs31 := Below.size E
  have hs32 := Below.size e27
  replace E := E.trans e27
  replace hB4 := hB4.ext e27
  replace hB11 := hB11.ext e27
  replace hB19 := hB19.ext e27
  refine Sq.partB (fun hv => ?_) (fun hv => ?_)
  · refine Sq.notT .plain rfl rfl ?_
    refine Sq.move .plain rfl rfl ?_
    refine Sq.loadAgg agg27 (.met rfl rfl rfl) rfl rfl hB11 rfl ?_
    have hd36 := hB4.lt
    have hd37 := hB11.lt
    have hd38 := hB19.lt
    refine Sq.call fn40 (.met rfl rfl rfl) rfl rfl (sValid_c _ b _ _ (hnx'.ext E) (hac'.ext E)) ?_
    rintro _ w34 ⟨rfl, e35⟩
    have hs39 := Below.size E
    have hs40 := Below.size e35
    replace E := E.trans e35
    replace hB4 := hB4.ext e35
    replace hB11 := hB11.ext e35
    replace hB19 := hB19.ext e35
    refine Sq.partB (fun hv' => ?_) (fun hv' => ?_)
    · refine Sq.notT (.met rfl rfl rfl) rfl rfl ?_
      refine Sq.pickF .plain rfl rfl rfl ?_
      refine Sq.move .plain rfl rfl ?_
      refine Sq.move (.met rfl rfl rfl) rfl rfl ?_
      refine Sq.lss (.met rfl rfl rfl) rfl rfl rfl ?_
      refine Sq.part (fun hka => ?_) (fun hka => ?_)
      · refine Sq.pickF .plain rfl rfl rfl ?_
        refine Sq.move .plain rfl rfl ?_
        refine Sq.off rfl rfl rfl rfl rfl rfl ?_
        refine Sq.off rfl rfl rfl rfl rfl rfl ?_
        refine Sq.pickT .plain rfl rfl rfl ?_
        refine Sq.nil ?_
        refine Eq.next ?_
        refine Cq.thn rfl ?_
        refine Cq.seq ?_
        refine Cq.region ?_
        refine Sq.build st27 rfl rfl .plain rfl rfl one_nil rfl ?_
        refine Sq.storeAgg agg27 .plain rfl rfl (one_cons rfl (one_cons rfl (one_cons rfl one_nil))) hB19 rfl rfl (fun w41 g42 hB43 => ?_)
        have hs44 := World.grownBy.size g42
        replace E := E.grown g42 (fun k hk => by injection hk with hk; subst hk; omega)
        replace hB19 := hB43
        refine Sq.assign .plain rfl rfl ?_
        refine Sq.nil ?_
        refine Eq.next ?_
        refine Cq.ret ?_
        refine Eq.pastRet ?_
        refine Eq.retCell2 rfl rfl agg27 hB19 rfl rfl ?_
        have hno : prodOk a b k = false := prodOk_no (.inr (.inr (by omega)))
        exact ⟨⟨_, by rw [hno], by rw [if_neg (by rw [hno]; decide)]; exact ⟨_, _, rfl, OwnRows.nil _ _ _ _ _, Own.nil _ _ _⟩⟩, E⟩
      refine Sq.pickF .plain rfl rfl rfl ?_
      refine Sq.move .plain rfl rfl ?_
      refine Sq.move (.met rfl rfl rfl) rfl rfl ?_
      refine Sq.gtr (.met rfl rfl rfl) rfl rfl rfl ?_
      refine Sq.part (fun hkb => ?_) (fun hkb => ?_)
      · refine Sq.pickF .plain rfl rfl rfl ?_
        refine Sq.nil ?_
        refine Eq.next ?_
        refine Cq.thn rfl ?_
        refine Cq.seq ?_
        refine Cq.region ?_
        refine Sq.build st27 rfl rfl .plain rfl rfl one_nil rfl ?_
        refine Sq.storeAgg agg27 .plain rfl rfl (one_cons rfl (one_cons rfl (one_cons rfl one_nil))) hB19 rfl rfl (fun w45 g46 hB47 => ?_)
        have hs48 := World.grownBy.size g46
        replace E := E.grown g46 (fun k hk => by injection hk with hk; subst hk; omega)
        replace hB19 := hB47
        refine Sq.assign .plain rfl rfl ?_
        refine Sq.nil ?_
        refine Eq.next ?_
        refine Cq.ret ?_
        refine Eq.pastRet ?_
        refine Eq.retCell2 rfl rfl agg27 hB19 rfl rfl ?_
        have hno : prodOk a b k = false := prodOk_no (.inr (.inr (by omega)))
        exact ⟨⟨_, by rw [hno], by rw [if_neg (by rw [hno]; decide)]; exact ⟨_, _, rfl, OwnRows.nil _ _ _ _ _, Own.nil _ _ _⟩⟩, E⟩
      refine Sq.pickF .plain rfl rfl rfl ?_
      refine Sq.nil ?_
      refine Eq.next ?_
      refine Cq.els rfl ?_
      refine Cq.skip ?_
      refine Eq.next ?_
      refine Cq.seq ?_
      refine Cq.region ?_
      refine Sq.fieldAddr fld27_0 .plain rfl rfl ?_
      refine Sq.loadB one3 .plain rfl rfl hB4 rfl ?_
      refine Sq.fieldAddr fld27_0 .plain rfl rfl ?_
      refine Sq.loadB one3 .plain rfl rfl hB11 rfl ?_
      refine Sq.or .plain rfl rfl rfl (by have := (validA_spec.1 hv).1; have := (validA_spec.1 hv').1; omega) ?_
      refine Sq.build st27 rfl rfl .plain rfl rfl (one_cons rfl one_nil) rfl ?_
      refine Sq.alloc zero27 .plain rfl (fun b49 w50 e51 hB52 hlo53 => ?_)
      have hd54 := Nat.le_trans (Below.size E) hlo53
      have hd55 := Nat.lt_of_lt_of_le hB4.lt hlo53
      have hd56 := Nat.lt_of_lt_of_le hB11.lt hlo53
      have hd57 := Nat.lt_of_lt_of_le hB19.lt hlo53
      have hs58 := Below.size e51
      replace E := E.trans e51
      replace hB4 := hB4.ext e51
      replace hB11 := hB11.ext e51
      replace hB19 := hB19.ext e51
      refine Sq.storeAgg agg27 .plain rfl rfl (one_cons rfl (one_cons rfl (one_cons rfl one_nil))) hB52 rfl rfl (fun w59 g60 hB61 => ?_)
      have hs62 := World.grownBy.size g60
      replace E := E.grown g60 (fun k hk => by injection hk with hk; subst hk; omega)
      replace hB4 := hB4.grown g60 (by intro h; injection h with h; omega)
      replace hB11 := hB11.grown g60 (by intro h; injection h with h; omega)
      replace hB19 := hB19.grown g60 (by intro h; injection h with h; omega)
      replace hB52 := hB61
      refine Sq.nil ?_
      refine Eq.next ?_
      refine Cq.seq ?_
      refine Cq.region ?_
      have hpal := prod_al hv hv'
      refine Sq.fieldAddr fld27_0 .plain rfl rfl ?_
      refine Sq.loadB one3 .plain rfl rfl hB52 rfl ?_
      have hd67 := hB4.lt
      have hd68 := hB11.lt
      have hd69 := hB19.lt
      have hd70 := hB52.lt
      refine Sq.call fn52 .plain rfl rfl (l1Letters_c (orI a.al b.al) (by omega) _) ?_
      rintro v63 w64 ⟨hl66, e65⟩
      have hs71 := Below.size E
      have hs72 := Below.size e65
      replace E := E.trans e65
      replace hB4 := hB4.ext e65
      replace hB11 := hB11.ext e65
      replace hB19 := hB19.ext e65
      replace hB52 := hB52.ext e65
      refine Sq.assign .plain rfl rfl ?_
      refine Sq.nil ?_
      refine Eq.next ?_
      refine Cq.seq ?_
      refine Cq.region ?_
      refine Sq.build st55 rfl rfl .plain rfl rfl one_nil rfl ?_
      refine Sq.litW slw56 rfl rfl (by decide) .plain rfl (rows := [[Value.int .i64 0, Value.int .i64 0]]) rfl (fun r hr => by rw [List.mem_singleton.1 hr]; exact ⟨rfl, one_cons rfl (one_cons rfl one_nil)⟩) (fun b73 w74 e75 hlo76 hw77 hk78 => ?_)
      have hs79 := Below.size e75
      replace E := E.trans e75
      replace hB4 := hB4.ext e75
      replace hB11 := hB11.ext e75
      replace hB19 := hB19.ext e75
      replace hB52 := hB52.ext e75
      replace hl66 := hl66.ext e75
      have hW : Wid w74 w0.heap.size 55 2 _ (rows2 [(0, 0)]) := hw77 w0.heap.size (by omega)
      refine Sq.assign .plain rfl rfl ?_
      refine Sq.nil ?_
      refine Eq.next ?_
      refine Cq.seq ?_
      refine Cq.seq ?_
      refine Cq.region ?_
      refine Sq.assign .plain rfl rfl ?_
      refine Sq.nil ?_
      refine Eq.next ?_
      refine Cq.block ?_
      have hz1 := (validA_spec.1 hv).2
      have hz2 := (validA_spec.1 hv').2
      have h144 := le144 hv hv'
      have hlet := letters_len6 (orI a.al b.al)
      refine Cq.loop (fun nn w ls => ∃ (i : Int), ∃ (lv : Value), ∃ (nxv : Value), ∃ (acv : Value), ∃ (xss : List (List Int)), ∃ (ys : List Bool), ls = [(2, Value.int .i64 k), (3, Value.pointer (some ⟨b1, 0, none⟩)), (4, Value.pointer (some ⟨b8, 0, none⟩)), (6, Value.pointer (some ⟨b16, 0, none⟩)), (7, Value.bool false), (8, Value.pointer (some ⟨b49, 0, none⟩)), (9, v63), (10, lv), (11, Value.int .i64 i)] ∧ (0 ≤ i ∧ i ≤ (bfs (step2 a b) (0, 0) (letters (orI a.al b.al)) i.toNat).length) ∧ Wid w w0.heap.size 55 2 lv (rows2 (bfs (step2 a b) (0, 0) (letters (orI a.al b.al)) i.toNat)) ∧ Blk w b49 27 [Value.int .i64 (orI a.al b.al), nxv, acv] ∧ OwnRows w w0.heap.size w.heap.size 52 3 nxv xss ∧ Own w w0.heap.size 4 acv (ys.map Value.bool) ∧ xss = rowsAt (step2 a b) (letters (orI a.al b.al)) (bfs (step2 a b) (0, 0) (letters (orI a.al b.al)) i.toNat) i.toNat ∧ ys = ((bfs (step2 a b) (0, 0) (letters (orI a.al b.al)) i.toNat).take i.toNat).map (acc2 a b k) ∧ ((bfs (step2 a b) (0, 0) (letters (orI a.al b.al)) i.toNat).length ≤ 12) ∧ Ext w0 w ∧ Blk w b1 27 [Value.int .i64 a.al, nx, ac] ∧ Blk w b8 27 [Value.int .i64 b.al, nx', ac'] ∧ Blk w b16 27 [Value.int .i64 0, Value.slice none 0 0, Value.slice none 0 0] ∧ Own w w59.heap.size 3 v63 ((letters (orI a.al b.al)).map (Value.int .i64)) ∧ nn = (14 - i).toNat) _ _ ⟨0, _, _, _, [], [], rfl, ⟨by omega, by show (0 : Int) ≤ ((1 : Nat) : Int); omega⟩, hW, hB52, OwnRows.nil _ _ _ _ _, Own.nil _ _ _, rfl, rfl, by show 1 ≤ 12; omega, E, hB4, hB11, hB19, hl66, rfl⟩ (.cons rfl (.cons rfl (.cons rfl (.cons rfl (.cons rfl (.cons rfl (.cons rfl (.cons rfl (.cons rfl (.nil)))))))))) ?_
      rintro nn wl1 ls ⟨i, lv, nxv, acv, xss, ys, rfl, hi, hW, hBr, hor, hoa, hxs, hys, hlm, E, hB4, hB11, hB19, hl66, rfl⟩
      have hs80 := Below.size E
      have hlow := Own.low hl66
      have hb0 := bfs_all (f := step2 a b) (s := ((0, 0) : Int × Int)) (L := (letters (orI a.al b.al))) (P := In2 a b) (in_zero hv hv') (in_step hv hv') i.toNat
      have hxl : xss.length ≤ 20 := by rw [hxs, rowsAt_length _ _ (by omega)]; omega
      have hyl : ys.length ≤ 20 := by rw [hys, List.length_map, List.length_take]; omega
      refine Cq.seq ?_
      refine Cq.seq ?_
      refine Cq.region ?_
      refine Sq.move .plain rfl rfl ?_
      refine Sq.move .plain rfl rfl ?_
      refine Sq.lenWid hW .plain rfl und56 rfl ?_
      rw [rows2_length]
      refine Sq.lss .plain rfl rfl rfl ?_
      refine Sq.part (fun c81 => ?_) (fun c81 => ?_)
      · refine Sq.nil ?_
        refine Eq.next ?_
        refine Cq.thn rfl ?_
        refine Cq.skip ?_
        refine Eq.next ?_
        refine Cq.seq ?_
        refine Cq.block ?_
        refine Cq.seq ?_
        refine Cq.region ?_
        refine Sq.lit sl52 rfl rfl .plain rfl rfl one_nil (fun b82 w83 e84 hlo85 ho86 _ => ?_)
        replace ho86 := ho86 wl1.heap.size (Nat.le_refl _)
        have hs88 := Below.size e84
        replace E := E.trans e84
        replace hB4 := hB4.ext e84
        replace hB11 := hB11.ext e84
        replace hB19 := hB19.ext e84
        replace hl66 := hl66.ext e84
        replace hW := hW.ext e84
        replace hBr := hBr.ext e84
        replace hor := hor.ext e84
        replace hoa := hoa.ext e84
        refine Sq.assign .plain rfl rfl ?_
        refine Sq.nil ?_
        refine Eq.next ?_
        refine Cq.seq ?_
        refine Cq.seq ?_
        refine Cq.region ?_
        refine Sq.assign .plain rfl rfl ?_
        refine Sq.nil ?_
        refine Eq.next ?_
        refine Cq.block ?_
        obtain ⟨q, hq⟩ : ∃ q, (bfs (step2 a b) (0, 0) (letters (orI a.al b.al)) i.toNat)[i.toNat]? = some q := ⟨_, List.getElem?_eq_getElem (by omega)⟩
        have hqi : In2 a b q := hb0 _ (List.mem_of_getElem? hq)
        have hqi' := hqi
        have hqi1 := hqi.1
        have hqi2 := hqi.2
        refine Cq.loop (fun nn w ls => ∃ (k2 : Int), ∃ (lv2 : Value), ∃ (rv : Value), ∃ (row : List Int), ls = [(2, Value.int .i64 k), (3, Value.pointer (some ⟨b1, 0, none⟩)), (4, Value.pointer (some ⟨b8, 0, none⟩)), (6, Value.pointer (some ⟨b16, 0, none⟩)), (7, Value.bool false), (8, Value.pointer (some ⟨b49, 0, none⟩)), (9, v63), (10, lv2), (11, Value.int .i64 i), (12, rv), (13, Value.int .i64 k2)] ∧ (0 ≤ k2 ∧ k2 ≤ (letters (orI a.al b.al)).length) ∧ wl1.heap.size ≤ w.heap.size ∧ Wid w w0.heap.size 55 2 lv2 (rows2 (mid (step2 a b) (0, 0) (letters (orI a.al b.al)) i.toNat q k2.toNat)) ∧ Own w wl1.heap.size 3 rv (row.map (Value.int .i64)) ∧ row = rowTo (step2 a b) (letters (orI a.al b.al)) (mid (step2 a b) (0, 0) (letters (orI a.al b.al)) i.toNat q k2.toNat) q k2.toNat ∧ Ext w0 w ∧ Blk w b1 27 [Value.int .i64 a.al, nx, ac] ∧ Blk w b8 27 [Value.int .i64 b.al, nx', ac'] ∧ Blk w b16 27 [Value.int .i64 0, Value.slice none 0 0, Value.slice none 0 0] ∧ Blk w b49 27 [Value.int .i64 (orI a.al b.al), nxv, acv] ∧ OwnRows w w0.heap.size wl1.heap.size 52 3 nxv xss ∧ Own w w0.heap.size 4 acv (ys.map Value.bool) ∧ Own w w59.heap.size 3 v63 ((letters (orI a.al b.al)).map (Value.int .i64)) ∧ nn = ((letters (orI a.al b.al)).length - k2).toNat) _ _ ⟨0, _, _, [], rfl, by omega, by omega, hW, ho86, rfl, E, hB4, hB11, hB19, hBr, hor, hoa, hl66, rfl⟩ (.cons rfl (.cons rfl (.cons rfl (.cons rfl (.cons rfl (.cons rfl (.cons rfl (.cons rfl (.cons rfl (.cons rfl (.cons rfl (.nil)))))))))))) ?_
        rintro nn wl2 ls ⟨k2, lv2, rv, row, rfl, hk, hsz, hW, hro, hrow, E, hB4, hB11, hB19, hBr, hor, hoa, hl66, rfl⟩
        have hs89 := Below.size E
        have hWl := Wid.low hW
        have hdd0 := Blk.lt hB4
        have hdd1 := Blk.lt hB11
        have hdd2 := Blk.lt hB19
        have hdd3 := Blk.lt hBr
        have hlt : k2 < (letters (orI a.al b.al)).length → 0 ≤ ((letters (orI a.al b.al)).getD k2.toNat 0) ∧ ((letters (orI a.al b.al)).getD k2.toNat 0) < 6 := fun h => letters_at (orI a.al b.al) (by omega)
        have hml := (mid_prefix0 (f := step2 a b) (s := ((0, 0) : Int × Int)) (L := (letters (orI a.al b.al))) i.toNat q k2.toNat).length_le
        have hmh := mid_le (f := step2 a b) (s := ((0, 0) : Int × Int)) (L := (letters (orI a.al b.al))) (i := i.toNat) (q := q) (k := k2.toNat)
        have hcm := mid_at2 (k := k2.toNat) hq
        have hrl : row.length ≤ 6 := by rw [hrow, rowTo, List.length_map, List.length_take]; omega
        have hc1 : 0 ≤ ((mid (step2 a b) (0, 0) (letters (orI a.al b.al)) i.toNat q k2.toNat).getD i.toNat (0, 0)).1 ∧ ((mid (step2 a b) (0, 0) (letters (orI a.al b.al)) i.toNat q k2.toNat).getD i.toNat (0, 0)).1 < a.next.length := by rw [hcm]; exact hqi.1
        have hc2 : 0 ≤ ((mid (step2 a b) (0, 0) (letters (orI a.al b.al)) i.toNat q k2.toNat).getD i.toNat (0, 0)).2 ∧ ((mid (step2 a b) (0, 0) (letters (orI a.al b.al)) i.toNat q k2.toNat).getD i.toNat (0, 0)).2 < b.next.length := by rw [hcm]; exact hqi.2
        refine Cq.seq ?_
        refine Cq.seq ?_
        refine Cq.region ?_
        refine Sq.move .plain rfl rfl ?_
        refine Sq.move .plain rfl rfl ?_
        refine Sq.lenInts (Own.row hl66) .plain rfl und52 rfl ?_
        refine Sq.lss .plain rfl rfl rfl ?_
        refine Sq.part (fun c90 => ?_) (fun c90 => ?_)
        · refine Sq.nil ?_
          refine Eq.next ?_
          refine Cq.thn rfl ?_
          refine Cq.skip ?_
          refine Eq.next ?_
          refine Cq.seq ?_
          refine Cq.block ?_
          refine Cq.seq ?_
          refine Cq.cut (fun ls w => ∃ (bp : Nat), ls = [(2, Value.int .i64 k), (3, Value.pointer (some ⟨b1, 0, none⟩)), (4, Value.pointer (some ⟨b8, 0, none⟩)), (6, Value.pointer (some ⟨b16, 0, none⟩)), (7, Value.bool false), (8, Value.pointer (some ⟨b49, 0, none⟩)), (9, v63), (10, lv2), (11, Value.int .i64 i), (12, rv), (13, Value.int .i64 k2), (14, Value.pointer (some ⟨bp, 0, none⟩))] ∧ Blk w bp 55 [Value.int .i64 (goA a (((mid (step2 a b) (0, 0) (letters (orI a.al b.al)) i.toNat q k2.toNat).getD i.toNat (0, 0)).1) ((letters (orI a.al b.al)).getD k2.toNat 0)), Value.int .i64 (goA b (((mid (step2 a b) (0, 0) (letters (orI a.al b.al)) i.toNat q k2.toNat).getD i.toNat (0, 0)).2) ((letters (orI a.al b.al)).getD k2.toNat 0))] ∧ wl2.heap.size ≤ bp ∧ Ext w0 w ∧ Blk w b1 27 [Value.int .i64 a.al, nx, ac] ∧ Blk w b8 27 [Value.int .i64 b.al, nx', ac'] ∧ Blk w b16 27 [Value.int .i64 0, Value.slice none 0 0, Value.slice none 0 0] ∧ Blk w b49 27 [Value.int .i64 (orI a.al b.al), nxv, acv] ∧ OwnRows w w0.heap.size wl1.heap.size 52 3 nxv xss ∧ Own w w0.heap.size 4 acv (ys.map Value.bool) ∧ Own w w59.heap.size 3 v63 ((letters (orI a.al b.al)).map (Value.int .i64)) ∧ Wid w w0.heap.size 55 2 lv2 (rows2 (mid (step2 a b) (0, 0) (letters (orI a.al b.al)) i.toNat q k2.toNat)) ∧ Own w wl1.heap.size 3 rv (row.map (Value.int .i64))) ?_ ?_
          · have hlx := hlt (by omega)
            obtain ⟨pL, hpL⟩ := Ints.at (Own.row hl66) (i := k2) (by omega) (by omega)
            refine Cq.drawS 24 (fun w' => Blk w' b1 27 [Value.int .i64 a.al, nx, ac] ∧ Blk w' b8 27 [Value.int .i64 b.al, nx', ac'] ∧ Wid w' w0.heap.size 55 2 lv2 (rows2 (mid (step2 a b) (0, 0) (letters (orI a.al b.al)) i.toNat q k2.toNat)) ∧ At w' 3 v63 k2 pL (.int .i64 ((letters (orI a.al b.al)).getD k2.toNat 0))) mixed (⟨hB4, hB11, hW, hpL⟩) (fun w91 e92 hS => ?_)
            clear hS
            have hs93 := Below.size e92
            replace E := E.trans e92
            replace hB4 := hB4.ext e92
            replace hB11 := hB11.ext e92
            replace hB19 := hB19.ext e92
            replace hBr := hBr.ext e92
            replace hor := hor.ext e92
            replace hoa := hoa.ext e92
            replace hl66 := hl66.ext e92
            replace hW := hW.ext e92
            replace hro := hro.ext e92
            replace hpL := hpL.ext e92
            have hW_w91 := hW
            refine Gq.st 0 rfl (by kernel_rfl) rfl .plain rfl (fun _ _ _ h => h) ⟨hB4, hB11, hW, hpL⟩ (fun w' x => Still.loadAgg agg27 rfl x.1 rfl) ?_
            refine Gq.st 1 rfl (by kernel_rfl) rfl .plain rfl (fun _ _ _ h => h) ⟨hB4, hB11, hW, hpL⟩ (fun w' x => Still.move rfl) ?_
            refine Gq.st 2 rfl (by kernel_rfl) rfl .plain rfl (fun _ _ _ h => h) ⟨hB4, hB11, hW, hpL⟩ (fun w' x => Still.move rfl) ?_
            obtain ⟨ghgw94, chgw94, hgw94⟩ := Wid.pair hW_w91 (i := i) (by omega) (by omega)
            refine Gq.st 3 rfl (by kernel_rfl) rfl .plain rfl (fun _ _ _ h => h) ⟨hB4, hB11, hW, hpL⟩ (fun w' x => Still.ixV slw56 hgw94 rfl rfl (by omega)) ?_
            refine Gq.st 4 rfl (by kernel_rfl) rfl .plain rfl (fun _ _ _ h => h) ⟨hB4, hB11, hW, hpL⟩ (fun w' x => Still.fieldAddr fld55_0 rfl) ?_
            refine Gq.st 5 rfl (by kernel_rfl) rfl .plain rfl (fun _ _ _ h => h) ⟨hB4, hB11, hW, hpL⟩ (fun w' x => Still.load one3 rfl (Wid.cell2 hgw94 x.2.2.1 (by omega) (by omega)).1) ?_
            refine Gq.st 6 rfl (by kernel_rfl) rfl .plain rfl (fun _ _ _ h => h) ⟨hB4, hB11, hW, hpL⟩ (fun w' x => Still.move rfl) ?_
            refine Gq.st 7 rfl (by kernel_rfl) rfl .plain rfl (fun _ _ _ h => h) ⟨hB4, hB11, hW, hpL⟩ (fun w' x => Still.move rfl) ?_
            refine Gq.st 8 rfl (by kernel_rfl) rfl .plain rfl (fun _ _ _ h => h) ⟨hB4, hB11, hW, hpL⟩ (fun w' x => Still.at' sl52 hpL rfl rfl) ?_
            refine Gq.st 9 rfl (by kernel_rfl) rfl .plain rfl (fun _ _ _ h => h) ⟨hB4, hB11, hW, hpL⟩ (fun w' x => Still.loadA one3 rfl (x.2.2.2).1) ?_
            refine Gq.st 11 rfl (by kernel_rfl) rfl .plain rfl (fun _ _ _ h => h) ⟨hB4, hB11, hW, hpL⟩ (fun w' x => Still.loadAgg agg27 rfl x.2.1 rfl) ?_
            refine Gq.st 12 rfl (by kernel_rfl) rfl .plain rfl (fun _ _ _ h => h) ⟨hB4, hB11, hW, hpL⟩ (fun w' x => Still.move rfl) ?_
            refine Gq.st 13 rfl (by kernel_rfl) rfl .plain rfl (fun _ _ _ h => h) ⟨hB4, hB11, hW, hpL⟩ (fun w' x => Still.move rfl) ?_
            obtain ⟨ghgw95, chgw95, hgw95⟩ := Wid.pair hW_w91 (i := i) (by omega) (by omega)
            refine Gq.st 14 rfl (by kernel_rfl) rfl .plain rfl (fun _ _ _ h => h) ⟨hB4, hB11, hW, hpL⟩ (fun w' x => Still.ixV slw56 hgw95 rfl rfl (by omega)) ?_
            refine Gq.st 15 rfl (by kernel_rfl) rfl .plain rfl (fun _ _ _ h => h) ⟨hB4, hB11, hW, hpL⟩ (fun w' x => Still.fieldAddr fld55_1 rfl) ?_
            refine Gq.st 16 rfl (by kernel_rfl) rfl .plain rfl (fun _ _ _ h => h) ⟨hB4, hB11, hW, hpL⟩ (fun w' x => Still.load one3 rfl (Wid.cell2 hgw95 x.2.2.1 (by omega) (by omega)).2) ?_
            refine Gq.st 17 rfl (by kernel_rfl) rfl .plain rfl (fun _ _ _ h => h) ⟨hB4, hB11, hW, hpL⟩ (fun w' x => Still.move rfl) ?_
            refine Gq.st 18 rfl (by kernel_rfl) rfl .plain rfl (fun _ _ _ h => h) ⟨hB4, hB11, hW, hpL⟩ (fun w' x => Still.move rfl) ?_
            refine Gq.st 19 rfl (by kernel_rfl) rfl .plain rfl (fun _ _ _ h => h) ⟨hB4, hB11, hW, hpL⟩ (fun w' x => Still.at' sl52 hpL rfl rfl) ?_
            refine Gq.st 20 rfl (by kernel_rfl) rfl .plain rfl (fun _ _ _ h => h) ⟨hB4, hB11, hW, hpL⟩ (fun w' x => Still.loadA one3 rfl (x.2.2.2).1) ?_
            refine Gq.two 10 23 rfl rfl (by kernel_rfl) ?_ ?_
            · have hd99 := hB4.lt
              have hd100 := hB11.lt
              have hd101 := hB19.lt
              have hd102 := hBr.lt
              refine Sq.call fn53 .plain rfl rfl (l3Go_c _ a _ _ (hnx.ext E) (hac.ext E) hv (((mid (step2 a b) (0, 0) (letters (orI a.al b.al)) i.toNat q k2.toNat).getD i.toNat (0, 0)).1) (((letters (orI a.al b.al)).getD k2.toNat 0)) (by omega) (by omega)) ?_
              rintro _ w97 ⟨rfl, e98⟩
              have hs103 := Below.size E
              have hs104 := Below.size e98
              replace E := E.trans e98
              replace hB4 := hB4.ext e98
              replace hB11 := hB11.ext e98
              replace hB19 := hB19.ext e98
              replace hBr := hBr.ext e98
              replace hor := hor.ext e98
              replace hoa := hoa.ext e98
              replace hl66 := hl66.ext e98
              replace hW := hW.ext e98
              replace hro := hro.ext e98
              replace hpL := hpL.ext e98
              refine Sq.nil ?_
              refine Eq.goes (fun _ => ⟨hB4, hB11, hW, hpL⟩) ?_
              refine Gq.two 21 23 rfl rfl (by kernel_rfl) ?_ ?_
              · have hd108 := hB4.lt
                have hd109 := hB11.lt
                have hd110 := hB19.lt
                have hd111 := hBr.lt
                refine Sq.call fn53 .plain rfl rfl (l3Go_c _ b _ _ (hnx'.ext E) (hac'.ext E) hv' (((mid (step2 a b) (0, 0) (letters (orI a.al b.al)) i.toNat q k2.toNat).getD i.toNat (0, 0)).2) (((letters (orI a.al b.al)).getD k2.toNat 0)) (by omega) (by omega)) ?_
                rintro _ w106 ⟨rfl, e107⟩
                have hs112 := Below.size E
                have hs113 := Below.size e107
                replace E := E.trans e107
                replace hB4 := hB4.ext e107
                replace hB11 := hB11.ext e107
                replace hB19 := hB19.ext e107
                replace hBr := hBr.ext e107
                replace hor := hor.ext e107
                replace hoa := hoa.ext e107
                replace hl66 := hl66.ext e107
                replace hW := hW.ext e107
                replace hro := hro.ext e107
                replace hpL := hpL.ext e107
                refine Sq.nil ?_
                refine Eq.goes (fun _ => ⟨hB4, hB11, hW, hpL⟩) ?_
                refine Gq.st 22 rfl (by kernel_rfl) rfl .plain rfl (fun _ _ _ h => h) ⟨hB4, hB11, hW, hpL⟩ (fun w' x => Still.build st55 rfl rfl rfl (one_cons rfl (one_cons rfl one_nil)) rfl) ?_
                refine Gq.one 23 rfl (by kernel_rfl) ?_
                refine Sq.alloc zero55 .plain rfl (fun b114 w115 e116 hB117 hlo118 => ?_)
                have hd119 := Nat.le_trans (Below.size E) hlo118
                have hd120 := Nat.lt_of_lt_of_le hB4.lt hlo118
                have hd121 := Nat.lt_of_lt_of_le hB11.lt hlo118
                have hd122 := Nat.lt_of_lt_of_le hB19.lt hlo118
                have hd123 := Nat.lt_of_lt_of_le hBr.lt hlo118
                have hs124 := Below.size e116
                replace E := E.trans e116
                replace hB4 := hB4.ext e116
                replace hB11 := hB11.ext e116
                replace hB19 := hB19.ext e116
                replace hBr := hBr.ext e116
                replace hor := hor.ext e116
                replace hoa := hoa.ext e116
                replace hl66 := hl66.ext e116
                replace hW := hW.ext e116
                replace hro := hro.ext e116
                replace hpL := hpL.ext e116
                refine Sq.nil ?_
                refine Eq.goes (fun _ => ⟨hB4, hB11, hW, hpL⟩) ?_
                refine Gq.one 24 rfl (by kernel_rfl) ?_
                refine Sq.storeAgg agg55 .plain rfl rfl (one_cons rfl (one_cons rfl one_nil)) hB117 rfl rfl (fun w125 g126 hB127 => ?_)
                have hs128 := World.grownBy.size g126
                replace E := E.grown g126 (fun k hk => by injection hk with hk; subst hk; omega)
                replace hB4 := hB4.grown g126 (by intro h; injection h with h; omega)
                replace hB11 := hB11.grown g126 (by intro h; injection h with h; omega)
                replace hB19 := hB19.grown g126 (by intro h; injection h with h; omega)
                replace hBr := hBr.grown g126 (by intro h; injection h with h; omega)
                replace hor := hor.stored g126 hB117 (by decide) (by decide)
                replace hoa := hoa.stored g126 hB117 (by decide)
                replace hl66 := hl66.stored g126 hB117 (by decide)
                replace hW := hW.storedN g126 hWl (by omega)
                replace hro := hro.stored g126 hB117 (by decide)
                replace hB117 := hB127
                refine Sq.nil ?_
                refine Eq.goes (fun h => absurd h (by decide)) ?_
                refine Gq.done (by kernel_rfl) ?_
                refine Eq.left _ ⟨b114, rfl, hB117, by omega, E, hB4, hB11, hB19, hBr, hor, hoa, hl66, hW, hro⟩ (.cons rfl (.cons rfl (.cons rfl (.cons rfl (.cons rfl (.cons rfl (.cons rfl (.cons rfl (.cons rfl (.cons rfl (.cons rfl (.cons rfl (.nil)))))))))))))
              refine Sq.alloc zero55 .plain rfl (fun b129 w130 e131 hB132 hlo133 => ?_)
              have hd134 := Nat.le_trans (Below.size E) hlo133
              have hd135 := Nat.lt_of_lt_of_le hB4.lt hlo133
              have hd136 := Nat.lt_of_lt_of_le hB11.lt hlo133
              have hd137 := Nat.lt_of_lt_of_le hB19.lt hlo133
              have hd138 := Nat.lt_of_lt_of_le hBr.lt hlo133
              have hs139 := Below.size e131
              replace E := E.trans e131
              replace hB4 := hB4.ext e131
              replace hB11 := hB11.ext e131
              replace hB19 := hB19.ext e131
              replace hBr := hBr.ext e131
              replace hor := hor.ext e131
              replace hoa := hoa.ext e131
              replace hl66 := hl66.ext e131
              replace hW := hW.ext e131
              replace hro := hro.ext e131
              replace hpL := hpL.ext e131
              refine Sq.nil ?_
              refine Eq.goes (fun _ => ⟨hB4, hB11, hW, hpL⟩) ?_
              refine Gq.one 21 rfl (by kernel_rfl) ?_
              have hd143 := hB4.lt
              have hd144 := hB11.lt
              have hd145 := hB19.lt
              have hd146 := hBr.lt
              have hd147 := hB132.lt
              refine Sq.call fn53 .plain rfl rfl (l3Go_c _ b _ _ (hnx'.ext E) (hac'.ext E) hv' (((mid (step2 a b) (0, 0) (letters (orI a.al b.al)) i.toNat q k2.toNat).getD i.toNat (0, 0)).2) (((letters (orI a.al b.al)).getD k2.toNat 0)) (by omega) (by omega)) ?_
              rintro _ w141 ⟨rfl, e142⟩
              have hs148 := Below.size E
              have hs149 := Below.size e142
              replace E := E.trans e142
              replace hB4 := hB4.ext e142
              replace hB11 := hB11.ext e142
              replace hB19 := hB19.ext e142
              replace hBr := hBr.ext e142
              replace hor := hor.ext e142
              replace hoa := hoa.ext e142
              replace hl66 := hl66.ext e142
              replace hW := hW.ext e142
              replace hro := hro.ext e142
              replace hpL := hpL.ext e142
              replace hB132 := hB132.ext e142
              refine Sq.nil ?_
              refine Eq.goes (fun _ => ⟨hB4, hB11, hW, hpL⟩) ?_
              refine Gq.st 22 rfl (by kernel_rfl) rfl .plain rfl (fun _ _ _ h => h) ⟨hB4, hB11, hW, hpL⟩ (fun w' x => Still.build st55 rfl rfl rfl (one_cons rfl (one_cons rfl one_nil)) rfl) ?_
              refine Gq.one 24 rfl (by kernel_rfl) ?_
              refine Sq.storeAgg agg55 .plain rfl rfl (one_cons rfl (one_cons rfl one_nil)) hB132 rfl rfl (fun w150 g151 hB152 => ?_)
              have hs153 := World.grownBy.size g151
              replace E := E.grown g151 (fun k hk => by injection hk with hk; subst hk; omega)
              replace hB4 := hB4.grown g151 (by intro h; injection h with h; omega)
              replace hB11 := hB11.grown g151 (by intro h; injection h with h; omega)
              replace hB19 := hB19.grown g151 (by intro h; injection h with h; omega)
              replace hBr := hBr.grown g151 (by intro h; injection h with h; omega)
              replace hor := hor.stored g151 hB132 (by decide) (by decide)
              replace hoa := hoa.stored g151 hB132 (by decide)
              replace hl66 := hl66.stored g151 hB132 (by decide)
              replace hW := hW.storedN g151 hWl (by omega)
              replace hro := hro.stored g151 hB132 (by decide)
              replace hB132 := hB152
              refine Sq.nil ?_
              refine Eq.goes (fun h => absurd h (by decide)) ?_
              refine Gq.done (by kernel_rfl) ?_
              refine Eq.left _ ⟨b129, rfl, hB132, by omega, E, hB4, hB11, hB19, hBr, hor, hoa, hl66, hW, hro⟩ (.cons rfl (.cons rfl (.cons rfl (.cons rfl (.cons rfl (.cons rfl (.cons rfl (.cons rfl (.cons rfl (.cons rfl (.cons rfl (.cons rfl (.nil)))))))))))))
            refine Sq.alloc zero55 .plain rfl (fun b154 w155 e156 hB157 hlo158 => ?_)
            have hd159 := Nat.le_trans (Below.size E) hlo158
            have hd160 := Nat.lt_of_lt_of_le hB4.lt hlo158
            have hd161 := Nat.lt_of_lt_of_le hB11.lt hlo158
            have hd162 := Nat.lt_of_lt_of_le hB19.lt hlo158
            have hd163 := Nat.lt_of_lt_of_le hBr.lt hlo158
            have hs164 := Below.size e156
            replace E := E.trans e156
            replace hB4 := hB4.ext e156
            replace hB11 := hB11.ext e156
            replace hB19 := hB19.ext e156
            replace hBr := hBr.ext e156
            replace hor := hor.ext e156
            replace hoa := hoa.ext e156
            replace hl66 := hl66.ext e156
            replace hW := hW.ext e156
            replace hro := hro.ext e156
            replace hpL := hpL.ext e156
            refine Sq.nil ?_
            refine Eq.goes (fun _ => ⟨hB4, hB11, hW, hpL⟩) ?_
            refine Gq.one 10 rfl (by kernel_rfl) ?_
            have hd168 := hB4.lt
            have hd169 := hB11.lt
            have hd170 := hB19.lt
            have hd171 := hBr.lt
            have hd172 := hB157.lt
            refine Sq.call fn53 .plain rfl rfl (l3Go_c _ a _ _ (hnx.ext E) (hac.ext E) hv (((mid (step2 a b) (0, 0) (letters (orI a.al b.al)) i.toNat q k2.toNat).getD i.toNat (0, 0)).1) (((letters (orI a.al b.al)).getD k2.toNat 0)) (by omega) (by omega)) ?_
            rintro _ w166 ⟨rfl, e167⟩
            have hs173 := Below.size E
            have hs174 := Below.size e167
            replace E := E.trans e167
            replace hB4 := hB4.ext e167
            replace hB11 := hB11.ext e167
            replace hB19 := hB19.ext e167
            replace hBr := hBr.ext e167
            replace hor := hor.ext e167
            replace hoa := hoa.ext e167
            replace hl66 := hl66.ext e167
            replace hW := hW.ext e167
            replace hro := hro.ext e167
            replace hpL := hpL.ext e167
            replace hB157 := hB157.ext e167
            refine Sq.nil ?_
            refine Eq.goes (fun _ => ⟨hB4, hB11, hW, hpL⟩) ?_
            refine Gq.one 21 rfl (by kernel_rfl) ?_
            have hd178 := hB4.lt
            have hd179 := hB11.lt
            have hd180 := hB19.lt
            have hd181 := hBr.lt
            have hd182 := hB157.lt
            refine Sq.call fn53 .plain rfl rfl (l3Go_c _ b _ _ (hnx'.ext E) (hac'.ext E) hv' (((mid (step2 a b) (0, 0) (letters (orI a.al b.al)) i.toNat q k2.toNat).getD i.toNat (0, 0)).2) (((letters (orI a.al b.al)).getD k2.toNat 0)) (by omega) (by omega)) ?_
            rintro _ w176 ⟨rfl, e177⟩
            have hs183 := Below.size E
            have hs184 := Below.size e177
            replace E := E.trans e177
            replace hB4 := hB4.ext e177
            replace hB11 := hB11.ext e177
            replace hB19 := hB19.ext e177
            replace hBr := hBr.ext e177
            replace hor := hor.ext e177
            replace hoa := hoa.ext e177
            replace hl66 := hl66.ext e177
            replace hW := hW.ext e177
            replace hro := hro.ext e177
            replace hpL := hpL.ext e177
            replace hB157 := hB157.ext e177
            refine Sq.nil ?_
            refine Eq.goes (fun _ => ⟨hB4, hB11, hW, hpL⟩) ?_
            refine Gq.st 22 rfl (by kernel_rfl) rfl .plain rfl (fun _ _ _ h => h) ⟨hB4, hB11, hW, hpL⟩ (fun w' x => Still.build st55 rfl rfl rfl (one_cons rfl (one_cons rfl one_nil)) rfl) ?_
            refine Gq.one 24 rfl (by kernel_rfl) ?_
            refine Sq.storeAgg agg55 .plain rfl rfl (one_cons rfl (one_cons rfl one_nil)) hB157 rfl rfl (fun w185 g186 hB187 => ?_)
            have hs188 := World.grownBy.size g186
            replace E := E.grown g186 (fun k hk => by injection hk with hk; subst hk; omega)
            replace hB4 := hB4.grown g186 (by intro h; injection h with h; omega)
            replace hB11 := hB11.grown g186 (by intro h; injection h with h; omega)
            replace hB19 := hB19.grown g186 (by intro h; injection h with h; omega)
            replace hBr := hBr.grown g186 (by intro h; injection h with h; omega)
            replace hor := hor.stored g186 hB157 (by decide) (by decide)
            replace hoa := hoa.stored g186 hB157 (by decide)
            replace hl66 := hl66.stored g186 hB157 (by decide)
            replace hW := hW.storedN g186 hWl (by omega)
            replace hro := hro.stored g186 hB157 (by decide)
            replace hB157 := hB187
            refine Sq.nil ?_
            refine Eq.goes (fun h => absurd h (by decide)) ?_
            refine Gq.done (by kernel_rfl) ?_
            refine Eq.left _ ⟨b154, rfl, hB157, by omega, E, hB4, hB11, hB19, hBr, hor, hoa, hl66, hW, hro⟩ (.cons rfl (.cons rfl (.cons rfl (.cons rfl (.cons rfl (.cons rfl (.cons rfl (.cons rfl (.cons rfl (.cons rfl (.cons rfl (.cons rfl (.nil)))))))))))))
          rintro ls wc13 ⟨bp, rfl, hBp, hbp, E, hB4, hB11, hB19, hBr, hor, hoa, hl66, hW, hro⟩
          have hs189 := Below.size E
          refine Eq.next ?_
          refine Cq.seq ?_
          refine Cq.seq ?_
          refine Cq.region ?_
          refine Sq.move .plain rfl rfl ?_
          refine Sq.loadAgg agg55 .plain rfl rfl hBp rfl ?_
          have hd193 := hB4.lt
          have hd194 := hB11.lt
          have hd195 := hB19.lt
          have hd196 := hBr.lt
          have hd197 := hBp.lt
          refine Sq.call fn54 .plain rfl rfl (l5Find_c _ _ _ ((mid (step2 a b) (0, 0) (letters (orI a.al b.al)) i.toNat q k2.toNat)) hW (step2 a b ((mid (step2 a b) (0, 0) (letters (orI a.al b.al)) i.toNat q k2.toNat).getD i.toNat (0, 0)) ((letters (orI a.al b.al)).getD k2.toNat 0)) (by first | omega | (rw [List.length_append, List.length_singleton]; omega))) ?_
          rintro _ w191 ⟨rfl, e192⟩
          have hs198 := Below.size E
          have hs199 := Below.size e192
          replace E := E.trans e192
          replace hB4 := hB4.ext e192
          replace hB11 := hB11.ext e192
          replace hB19 := hB19.ext e192
          replace hBr := hBr.ext e192
          replace hor := hor.ext e192
          replace hoa := hoa.ext e192
          replace hl66 := hl66.ext e192
          replace hW := hW.ext e192
          replace hro := hro.ext e192
          replace hBp := hBp.ext e192
          refine Sq.lss .plain rfl rfl rfl ?_
          refine Sq.part (fun hin => ?_) (fun hin => ?_)
          · refine Sq.nil ?_
            refine Eq.next ?_
            refine Cq.thn rfl ?_
            refine Cq.region ?_
            refine Sq.move .plain rfl rfl ?_
            refine Sq.loadAgg agg55 .plain rfl rfl hBp rfl ?_
            refine Sq.litW slw56 rfl rfl (by decide) .plain rfl (rows := [[Value.int .i64 (goA a (((mid (step2 a b) (0, 0) (letters (orI a.al b.al)) i.toNat q k2.toNat).getD i.toNat (0, 0)).1) ((letters (orI a.al b.al)).getD k2.toNat 0)), Value.int .i64 (goA b (((mid (step2 a b) (0, 0) (letters (orI a.al b.al)) i.toNat q k2.toNat).getD i.toNat (0, 0)).2) ((letters (orI a.al b.al)).getD k2.toNat 0))]]) rfl (fun r hr => by rw [List.mem_singleton.1 hr]; exact ⟨rfl, one_cons rfl (one_cons rfl one_nil)⟩) (fun b200 w201 e202 hlo203 hw204 hk205 => ?_)
            have hs206 := Below.size e202
            replace E := E.trans e202
            replace hB4 := hB4.ext e202
            replace hB11 := hB11.ext e202
            replace hB19 := hB19.ext e202
            replace hBr := hBr.ext e202
            replace hor := hor.ext e202
            replace hoa := hoa.ext e202
            replace hl66 := hl66.ext e202
            replace hW := hW.ext e202
            replace hro := hro.ext e202
            replace hBp := hBp.ext e202
            refine Sq.appS slw56 hW (by omega) (by rw [rows2_length]; omega) (r := [Value.int .i64 (goA a (((mid (step2 a b) (0, 0) (letters (orI a.al b.al)) i.toNat q k2.toNat).getD i.toNat (0, 0)).1) ((letters (orI a.al b.al)).getD k2.toNat 0)), Value.int .i64 (goA b (((mid (step2 a b) (0, 0) (letters (orI a.al b.al)) i.toNat q k2.toNat).getD i.toNat (0, 0)).2) ((letters (orI a.al b.al)).getD k2.toNat 0))]) hk205 ⟨rfl, one_cons rfl (one_cons rfl one_nil)⟩ .plain rfl rfl rfl (fun v207 w208 hW210 g209 _ _ => ?_)
            have hs211 := World.grownBy.size g209
            replace E := E.wid hW g209 (by omega)
            replace hB4 := hB4.wid hW g209 (by decide)
            replace hB11 := hB11.wid hW g209 (by decide)
            replace hB19 := hB19.wid hW g209 (by decide)
            replace hBr := hBr.wid hW g209 (by decide)
            replace hor := hor.wid hW g209 (by decide) (by decide)
            replace hoa := hoa.wid hW g209 (by decide)
            replace hl66 := hl66.wid hW g209 (by decide)
            replace hro := hro.wid hW g209 (by decide)
            replace hBp := hBp.widN g209 hWl (by omega)
            replace hW : Wid w208 w0.heap.size 55 2 v207 (rows2 ((mid (step2 a b) (0, 0) (letters (orI a.al b.al)) i.toNat q k2.toNat) ++ [(step2 a b ((mid (step2 a b) (0, 0) (letters (orI a.al b.al)) i.toNat q k2.toNat).getD i.toNat (0, 0)) ((letters (orI a.al b.al)).getD k2.toNat 0))])) := by rw [rows2_snoc]; exact hW210
            refine Sq.assign .plain rfl rfl ?_
            refine Sq.nil ?_
            refine Eq.next ?_
            refine Cq.region ?_
            refine Sq.move .plain rfl rfl ?_
            refine Sq.move .plain rfl rfl ?_
            refine Sq.loadAgg agg55 .plain rfl rfl hBp rfl ?_
            have hd215 := hB4.lt
            have hd216 := hB11.lt
            have hd217 := hB19.lt
            have hd218 := hBr.lt
            have hd219 := hBp.lt
            refine Sq.call fn54 .plain rfl rfl (l5Find_c _ _ _ (((mid (step2 a b) (0, 0) (letters (orI a.al b.al)) i.toNat q k2.toNat) ++ [(step2 a b ((mid (step2 a b) (0, 0) (letters (orI a.al b.al)) i.toNat q k2.toNat).getD i.toNat (0, 0)) ((letters (orI a.al b.al)).getD k2.toNat 0))])) hW (step2 a b ((mid (step2 a b) (0, 0) (letters (orI a.al b.al)) i.toNat q k2.toNat).getD i.toNat (0, 0)) ((letters (orI a.al b.al)).getD k2.toNat 0)) (by first | omega | (rw [List.length_append, List.length_singleton]; omega))) ?_
            rintro _ w213 ⟨rfl, e214⟩
            have hs220 := Below.size E
            have hs221 := Below.size e214
            replace E := E.trans e214
            replace hB4 := hB4.ext e214
            replace hB11 := hB11.ext e214
            replace hB19 := hB19.ext e214
            replace hBr := hBr.ext e214
            replace hor := hor.ext e214
            replace hoa := hoa.ext e214
            replace hl66 := hl66.ext e214
            replace hW := hW.ext e214
            replace hro := hro.ext e214
            refine Sq.app1 sl52 hro (by omega) (by first | omega | (simp; omega)) .plain rfl rfl rfl rfl rfl rfl rfl (fun v222 w223 ho225 g224 _ => ?_)
            have hs226 := g224.size
            replace E := E.owned hro g224 (by omega)
            replace hB4 := hB4.owned hro g224 (by decide)
            replace hB11 := hB11.owned hro g224 (by decide)
            replace hB19 := hB19.owned hro g224 (by decide)
            replace hBr := hBr.owned hro g224 (by decide)
            replace hor := hor.apart hro g224 (by omega) (by decide)
            replace hoa := hoa.owned hro g224 (by decide)
            replace hl66 := hl66.apart hlow hro g224 (by omega)
            replace hW := hW.owned hro g224 (by decide)
            refine Sq.assign .plain rfl rfl ?_
            refine Sq.nil ?_
            refine Eq.end ?_
            refine Eq.next ?_
            refine Cq.region ?_
            refine Sq.move .plain rfl rfl ?_
            refine Sq.add .plain rfl rfl rfl (by omega) ?_
            refine Sq.assign .plain rfl rfl ?_
            refine Sq.nil ?_
            have e2 := toNat_succ hk.1
            have e5 := mid_succ (f := step2 a b) (s := ((0, 0) : Int × Int)) (i := i.toNat) (q := q) (k := k2.toNat) (L := (letters (orI a.al b.al))) (by omega)
            have e6 := rowTo_step (f := step2 a b) (q := q) (k := k2.toNat) (L := (letters (orI a.al b.al))) (by omega) (mid_mem (f := step2 a b) (s := ((0, 0) : Int × Int)) (i := i.toNat))
            rw [← e5] at e6
            have h8 := findI_neg hin
            rw [hcm] at h8 hW
            rw [addNode_F h8] at e5
            refine Eq.round _ _ ⟨k2 + 1, _, _, _, rfl, by omega, by omega, by rw [e2, e5]; exact hW, Own.snocI ho225, by rw [e2, e6, ← hrow, e5, hcm, findI_in (List.mem_append_right _ (List.mem_singleton.2 rfl))]; first | done | rfl, E, hB4, hB11, hB19, hBr, hor, hoa, hl66, rfl⟩ (by omega) (.cons rfl (.cons rfl (.cons rfl (.cons rfl (.cons rfl (.cons rfl (.cons rfl (.cons rfl (.cons rfl (.cons rfl (.cons rfl (.nil))))))))))))
          refine Sq.nil ?_
          refine Eq.next ?_
          refine Cq.els rfl ?_
          refine Cq.skip ?_
          refine Eq.next ?_
          refine Cq.region ?_
          refine Sq.move .plain rfl rfl ?_
          refine Sq.move .plain rfl rfl ?_
          refine Sq.loadAgg agg55 .plain rfl rfl hBp rfl ?_
          have hd230 := hB4.lt
          have hd231 := hB11.lt
          have hd232 := hB19.lt
          have hd233 := hBr.lt
          have hd234 := hBp.lt
          refine Sq.call fn54 .plain rfl rfl (l5Find_c _ _ _ ((mid (step2 a b) (0, 0) (letters (orI a.al b.al)) i.toNat q k2.toNat)) hW (step2 a b ((mid (step2 a b) (0, 0) (letters (orI a.al b.al)) i.toNat q k2.toNat).getD i.toNat (0, 0)) ((letters (orI a.al b.al)).getD k2.toNat 0)) (by first | omega | (rw [List.length_append, List.length_singleton]; omega))) ?_
          rintro _ w228 ⟨rfl, e229⟩
          have hs235 := Below.size E
          have hs236 := Below.size e229
          replace E := E.trans e229
          replace hB4 := hB4.ext e229
          replace hB11 := hB11.ext e229
          replace hB19 := hB19.ext e229
          replace hBr := hBr.ext e229
          replace hor := hor.ext e229
          replace hoa := hoa.ext e229
          replace hl66 := hl66.ext e229
          replace hW := hW.ext e229
          replace hro := hro.ext e229
          refine Sq.app1 sl52 hro (by omega) (by first | omega | (simp; omega)) .plain rfl rfl rfl rfl rfl rfl rfl (fun v237 w238 ho240 g239 _ => ?_)
          have hs241 := g239.size
          replace E := E.owned hro g239 (by omega)
          replace hB4 := hB4.owned hro g239 (by decide)
          replace hB11 := hB11.owned hro g239 (by decide)
          replace hB19 := hB19.owned hro g239 (by decide)
          replace hBr := hBr.owned hro g239 (by decide)
          replace hor := hor.apart hro g239 (by omega) (by decide)
          replace hoa := hoa.owned hro g239 (by decide)
          replace hl66 := hl66.apart hlow hro g239 (by omega)
          replace hW := hW.owned hro g239 (by decide)
          refine Sq.assign .plain rfl rfl ?_
          refine Sq.nil ?_
          refine Eq.end ?_
          refine Eq.next ?_
          refine Cq.region ?_
          refine Sq.move .plain rfl rfl ?_
          refine Sq.add .plain rfl rfl rfl (by omega) ?_
          refine Sq.assign .plain rfl rfl ?_
          refine Sq.nil ?_
          have e2 := toNat_succ hk.1
          have e5 := mid_succ (f := step2 a b) (s := ((0, 0) : Int × Int)) (i := i.toNat) (q := q) (k := k2.toNat) (L := (letters (orI a.al b.al))) (by omega)
          have e6 := rowTo_step (f := step2 a b) (q := q) (k := k2.toNat) (L := (letters (orI a.al b.al))) (by omega) (mid_mem (f := step2 a b) (s := ((0, 0) : Int × Int)) (i := i.toNat))
          rw [← e5] at e6
          have h8 := findI_pos hin
          rw [hcm] at h8
          rw [addNode_T h8] at e5
          refine Eq.round _ _ ⟨k2 + 1, _, _, _, rfl, by omega, by omega, by rw [e2, e5]; exact hW, Own.snocI ho240, by rw [e2, e6, ← hrow, e5, hcm, findI_in h8]; first | done | rfl, E, hB4, hB11, hB19, hBr, hor, hoa, hl66, rfl⟩ (by omega) (.cons rfl (.cons rfl (.cons rfl (.cons rfl (.cons rfl (.cons rfl (.cons rfl (.cons rfl (.cons rfl (.cons rfl (.cons rfl (.nil))))))))))))
        refine Sq.nil ?_
        refine Eq.next ?_
        refine Cq.els rfl ?_
        refine Cq.exit ?_
        refine Eq.past ?_
        refine Eq.past ?_
        refine Eq.hit ?_
        refine Eq.next ?_
        refine Cq.seq ?_
        refine Cq.seq ?_
        refine Cq.region ?_
        refine Sq.move .plain rfl rfl ?_
        refine Sq.lenWid hW .plain rfl und56 rfl ?_
        rw [rows2_length]
        refine Sq.gtr .plain rfl rfl rfl ?_
        refine Sq.part (fun hbig => ?_) (fun hbig => ?_)
        · refine Sq.nil ?_
          refine Eq.next ?_
          refine Cq.thn rfl ?_
          refine Cq.seq ?_
          refine Cq.region ?_
          refine Sq.build st27 rfl rfl .plain rfl rfl one_nil rfl ?_
          refine Sq.storeAgg agg27 .plain rfl rfl (one_cons rfl (one_cons rfl (one_cons rfl one_nil))) hB19 rfl rfl (fun w242 g243 hB244 => ?_)
          have hs245 := World.grownBy.size g243
          replace E := E.grown g243 (fun k hk => by injection hk with hk; subst hk; omega)
          replace hB19 := hB244
          refine Sq.assign .plain rfl rfl ?_
          refine Sq.nil ?_
          refine Eq.next ?_
          refine Cq.ret ?_
          refine Eq.pastRet ?_
          refine Eq.outRet ?_
          refine Eq.pastRet ?_
          refine Eq.pastRet ?_
          refine Eq.outRet ?_
          refine Eq.pastRet ?_
          refine Eq.retCell2 rfl rfl agg27 hB19 rfl rfl ?_
          have hmd := mid_done (k := k2.toNat) (by omega) hq
          have e9 := (ord_prefix (f := step2 a b) (s := ((0, 0) : Int × Int)) (L := (letters (orI a.al b.al))) (i := i.toNat + 1) (by omega)).length_le
          rw [← hmd] at e9
          have hno : prodOk a b k = false := prodOk_long (by omega)
          exact ⟨⟨_, by rw [hno], by rw [if_neg (by rw [hno]; decide)]; exact ⟨_, _, rfl, OwnRows.nil _ _ _ _ _, Own.nil _ _ _⟩⟩, E⟩
        refine Sq.nil ?_
        refine Eq.next ?_
        refine Cq.els rfl ?_
        refine Cq.skip ?_
        refine Eq.next ?_
        refine Cq.seq ?_
        refine Cq.region ?_
        refine Sq.fieldAddr fld27_1 .plain rfl rfl ?_
        refine Sq.loadB one22 .plain rfl rfl hBr rfl ?_
        refine Sq.move .plain rfl rfl ?_
        obtain ⟨rs250, q251, q252, q253⟩ := OwnRows.open hor (by decide)
        have q253x := Ext.refl wl2
        refine Sq.app1 sl22 q251 (by omega) (by rw [q252]; first | omega | (simp; omega)) .plain rfl rfl rfl rfl rfl rfl (Row.one (Own.row hro)) (fun v246 w247 ho249 g248 _ => ?_)
        have hs254 := g248.size
        have ho249r := q253 _ row _ _ _ (Ext.refl _) (Own.mono hro (by omega)) (by omega) ho249 g248
        replace E := E.owned q251 g248 (by omega)
        replace hB4 := hB4.owned q251 g248 (by decide)
        replace hB11 := hB11.owned q251 g248 (by decide)
        replace hB19 := hB19.owned q251 g248 (by decide)
        replace hBr := hBr.owned q251 g248 (by decide)
        replace hoa := hoa.owned q251 g248 (by decide)
        replace hl66 := hl66.owned q251 g248 (by decide)
        replace hW := hW.owned q251 g248 (by decide)
        refine Sq.fieldAddr fld27_1 .plain rfl rfl ?_
        refine Sq.store one22 .plain rfl rfl (Rows.one (OwnRows.rows ho249r)) hBr (by simp) (fun w255 g256 hB257 => ?_)
        have hs258 := World.grownBy.size g256
        replace E := E.grown g256 (fun k hk => by injection hk with hk; subst hk; omega)
        replace hB4 := hB4.grown g256 (by intro h; injection h with h; omega)
        replace hB11 := hB11.grown g256 (by intro h; injection h with h; omega)
        replace hB19 := hB19.grown g256 (by intro h; injection h with h; omega)
        replace hoa := hoa.stored g256 hBr (by decide)
        replace hl66 := hl66.stored g256 hBr (by decide)
        replace hW := hW.stored g256 hBr (by decide)
        replace ho249r := ho249r.stored g256 hBr (by decide) (by decide)
        replace hBr := hB257
        refine Sq.nil ?_
        refine Eq.next ?_
        refine Cq.drawS 24 (fun w' => Blk w' b1 27 [Value.int .i64 a.al, nx, ac] ∧ Blk w' b8 27 [Value.int .i64 b.al, nx', ac'] ∧ Blk w' b49 27 [Value.int .i64 (orI a.al b.al), v246, acv] ∧ Wid w' w0.heap.size 55 2 lv2 (rows2 (mid (step2 a b) (0, 0) (letters (orI a.al b.al)) i.toNat q k2.toNat)) ∧ Ext w0 w') mixed (⟨hB4, hB11, hBr, hW, E⟩) (fun w259 e260 hS => ?_)
        clear hS
        have hs261 := Below.size e260
        replace E := E.trans e260
        replace hB4 := hB4.ext e260
        replace hB11 := hB11.ext e260
        replace hB19 := hB19.ext e260
        replace hBr := hBr.ext e260
        replace hoa := hoa.ext e260
        replace hl66 := hl66.ext e260
        replace hW := hW.ext e260
        replace ho249r := ho249r.ext e260
        have hW_w259 := hW
        refine Gq.st 0 rfl (by kernel_rfl) rfl .plain rfl (fun _ _ _ h => h) ⟨hB4, hB11, hBr, hW, E⟩ (fun w' x => Still.fieldAddr fld27_2 rfl) ?_
        refine Gq.st 1 rfl (by kernel_rfl) rfl .plain rfl (fun _ _ _ h => h) ⟨hB4, hB11, hBr, hW, E⟩ (fun w' x => Still.loadB one23 rfl x.2.2.1 rfl) ?_
        refine Gq.st 2 rfl (by kernel_rfl) rfl .plain rfl (fun _ _ _ h => h) ⟨hB4, hB11, hBr, hW, E⟩ (fun w' x => Still.fieldAddr fld27_2 rfl) ?_
        refine Gq.st 3 rfl (by kernel_rfl) rfl .plain rfl (fun _ _ _ h => h) ⟨hB4, hB11, hBr, hW, E⟩ (fun w' x => Still.loadB one23 rfl x.1 rfl) ?_
        refine Gq.st 4 rfl (by kernel_rfl) rfl .plain rfl (fun _ _ _ h => h) ⟨hB4, hB11, hBr, hW, E⟩ (fun w' x => Still.move rfl) ?_
        refine Gq.st 5 rfl (by kernel_rfl) rfl .plain rfl (fun _ _ _ h => h) ⟨hB4, hB11, hBr, hW, E⟩ (fun w' x => Still.move rfl) ?_
        obtain ⟨ghgw262, chgw262, hgw262⟩ := Wid.pair hW_w259 (i := i) (by omega) (by omega)
        refine Gq.st 6 rfl (by kernel_rfl) rfl .plain rfl (fun _ _ _ h => h) ⟨hB4, hB11, hBr, hW, E⟩ (fun w' x => Still.ixV slw56 hgw262 rfl rfl (by omega)) ?_
        refine Gq.st 7 rfl (by kernel_rfl) rfl .plain rfl (fun _ _ _ h => h) ⟨hB4, hB11, hBr, hW, E⟩ (fun w' x => Still.fieldAddr fld55_0 rfl) ?_
        refine Gq.st 8 rfl (by kernel_rfl) rfl .plain rfl (fun _ _ _ h => h) ⟨hB4, hB11, hBr, hW, E⟩ (fun w' x => Still.load one3 rfl (Wid.cell2 hgw262 x.2.2.2.1 (by omega) (by omega)).1) ?_
        obtain ⟨p263, hp264_w259⟩ := Bools.at hac (i := ((mid (step2 a b) (0, 0) (letters (orI a.al b.al)) i.toNat q k2.toNat).getD i.toNat (0, 0)).1) (by omega) (by omega)
        refine Gq.st 9 rfl (by kernel_rfl) rfl .plain rfl (fun _ _ _ h => h) ⟨hB4, hB11, hBr, hW, E⟩ (fun w' x => Still.at' sl23 hp264_w259 rfl rfl) ?_
        refine Gq.st 10 rfl (by kernel_rfl) rfl .plain rfl (fun _ _ _ h => h) ⟨hB4, hB11, hBr, hW, E⟩ (fun w' x => Still.loadA one4 rfl (hp264_w259.ext (x.2.2.2.2)).1) ?_
        refine Gq.st 11 rfl (by kernel_rfl) rfl .plain rfl (fun _ _ _ h => h) ⟨hB4, hB11, hBr, hW, E⟩ (fun w' x => Still.fieldAddr fld27_2 rfl) ?_
        refine Gq.st 12 rfl (by kernel_rfl) rfl .plain rfl (fun _ _ _ h => h) ⟨hB4, hB11, hBr, hW, E⟩ (fun w' x => Still.loadB one23 rfl x.2.1 rfl) ?_
        refine Gq.st 13 rfl (by kernel_rfl) rfl .plain rfl (fun _ _ _ h => h) ⟨hB4, hB11, hBr, hW, E⟩ (fun w' x => Still.move rfl) ?_
        refine Gq.st 14 rfl (by kernel_rfl) rfl .plain rfl (fun _ _ _ h => h) ⟨hB4, hB11, hBr, hW, E⟩ (fun w' x => Still.move rfl) ?_
        obtain ⟨ghgw265, chgw265, hgw265⟩ := Wid.pair hW_w259 (i := i) (by omega) (by omega)
        refine Gq.st 15 rfl (by kernel_rfl) rfl .plain rfl (fun _ _ _ h => h) ⟨hB4, hB11, hBr, hW, E⟩ (fun w' x => Still.ixV slw56 hgw265 rfl rfl (by omega)) ?_
        refine Gq.st 16 rfl (by kernel_rfl) rfl .plain rfl (fun _ _ _ h => h) ⟨hB4, hB11, hBr, hW, E⟩ (fun w' x => Still.fieldAddr fld55_1 rfl) ?_
        refine Gq.st 17 rfl (by kernel_rfl) rfl .plain rfl (fun _ _ _ h => h) ⟨hB4, hB11, hBr, hW, E⟩ (fun w' x => Still.load one3 rfl (Wid.cell2 hgw265 x.2.2.2.1 (by omega) (by omega)).2) ?_
        obtain ⟨p266, hp267_w259⟩ := Bools.at hac' (i := ((mid (step2 a b) (0, 0) (letters (orI a.al b.al)) i.toNat q k2.toNat).getD i.toNat (0, 0)).2) (by omega) (by omega)
        refine Gq.st 18 rfl (by kernel_rfl) rfl .plain rfl (fun _ _ _ h => h) ⟨hB4, hB11, hBr, hW, E⟩ (fun w' x => Still.at' sl23 hp267_w259 rfl rfl) ?_
        refine Gq.st 19 rfl (by kernel_rfl) rfl .plain rfl (fun _ _ _ h => h) ⟨hB4, hB11, hBr, hW, E⟩ (fun w' x => Still.loadA one4 rfl (hp267_w259.ext (x.2.2.2.2)).1) ?_
        refine Gq.st 20 rfl (by kernel_rfl) rfl .plain rfl (fun _ _ _ h => h) ⟨hB4, hB11, hBr, hW, E⟩ (fun w' x => Still.move rfl) ?_
        refine Gq.one 21 rfl (by kernel_rfl) ?_
        refine Sq.call fn55 .plain rfl rfl (l5Accepts_c _ _ k _) ?_
        rintro _ _ ⟨rfl, rfl⟩
        refine Sq.nil ?_
        refine Eq.goes (fun _ => ⟨hB4, hB11, hBr, hW, E⟩) ?_
        refine Gq.one 22 rfl (by kernel_rfl) ?_
        refine Sq.lit sl23 rfl rfl .plain rfl rfl (one_cons rfl one_nil) (fun b268 w269 e270 hlo271 ho272 _ => ?_)
        replace ho272 := ho272 w259.heap.size (Nat.le_refl _)
        have hs274 := Below.size e270
        replace E := E.trans e270
        replace hB4 := hB4.ext e270
        replace hB11 := hB11.ext e270
        replace hB19 := hB19.ext e270
        replace hBr := hBr.ext e270
        replace hoa := hoa.ext e270
        replace hl66 := hl66.ext e270
        replace hW := hW.ext e270
        replace ho249r := ho249r.ext e270
        refine Sq.nil ?_
        refine Eq.goes (fun _ => ⟨hB4, hB11, hBr, hW, E⟩) ?_
        refine Gq.one 23 rfl (by kernel_rfl) ?_
        refine Sq.app sl23 hoa (by omega) (Own.row ho272) (one_cons rfl one_nil) (by first | omega | (simp; omega)) .plain rfl rfl rfl rfl (fun v275 w276 ho278 g277 => ?_)
        have hs279 := g277.size
        replace E := E.owned hoa g277 (by omega)
        replace hB4 := hB4.owned hoa g277 (by decide)
        replace hB11 := hB11.owned hoa g277 (by decide)
        replace hB19 := hB19.owned hoa g277 (by decide)
        replace hBr := hBr.owned hoa g277 (by decide)
        replace hl66 := hl66.owned hoa g277 (by decide)
        replace hW := hW.owned hoa g277 (by decide)
        replace ho249r := ho249r.owned hoa g277 (by decide) (by decide)
        refine Sq.nil ?_
        refine Eq.goes (fun _ => ⟨hB4, hB11, hBr, hW, E⟩) ?_
        refine Gq.one 24 rfl (by kernel_rfl) ?_
        refine Sq.fieldAddr fld27_2 .plain rfl rfl ?_
        refine Sq.nil ?_
        refine Eq.goes (fun h => absurd h (by decide)) ?_
        refine Gq.one 25 rfl (by kernel_rfl) ?_
        refine Sq.store one23 .plain rfl rfl (Row.one (Own.row ho278)) hBr (by simp) (fun w280 g281 hB282 => ?_)
        have hs283 := World.grownBy.size g281
        replace E := E.grown g281 (fun k hk => by injection hk with hk; subst hk; omega)
        replace hB4 := hB4.grown g281 (by intro h; injection h with h; omega)
        replace hB11 := hB11.grown g281 (by intro h; injection h with h; omega)
        replace hB19 := hB19.grown g281 (by intro h; injection h with h; omega)
        replace hl66 := hl66.stored g281 hBr (by decide)
        replace hW := hW.stored g281 hBr (by decide)
        replace ho249r := ho249r.stored g281 hBr (by decide) (by decide)
        replace ho278 := ho278.stored g281 hBr (by decide)
        replace hBr := hB282
        refine Sq.nil ?_
        refine Eq.goes (fun h => absurd h (by decide)) ?_
        refine Gq.done (by kernel_rfl) ?_
        refine Eq.end ?_
        refine Eq.next ?_
        refine Cq.region ?_
        refine Sq.move .plain rfl rfl ?_
        refine Sq.add .plain rfl rfl rfl (by omega) ?_
        refine Sq.assign .plain rfl rfl ?_
        refine Sq.nil ?_
        have e1 := toNat_succ hi.1
        have hmd := mid_done (k := k2.toNat) (by omega) hq
        have e4 := (bfs_prefix1 (f := step2 a b) (s := ((0, 0) : Int × Int)) (L := (letters (orI a.al b.al))) i.toNat).length_le
        have hacc : kindB k (a.acc.getD (((mid (step2 a b) (0, 0) (letters (orI a.al b.al)) i.toNat q k2.toNat).getD i.toNat (0, 0)).1).toNat false) (b.acc.getD (((mid (step2 a b) (0, 0) (letters (orI a.al b.al)) i.toNat q k2.toNat).getD i.toNat (0, 0)).2).toNat false) = acc2 a b k q := by rw [hcm]; rfl
        refine Eq.round _ _ ⟨i + 1, _, _, _, _, _, rfl, by rw [e1]; omega, by rw [e1, ← hmd]; exact hW, hBr, OwnRows.now ho249r, Own.snocB ho278, by rw [e1, rowsAt_step hq, ← hxs, hrow, rowTo_done (k := k2.toNat) (by omega), hmd], by rw [e1, take_bfs2 hq, List.map_append, ← hys, List.map_cons, List.map_nil, ← hacc], by rw [e1, ← hmd]; omega, E, hB4, hB11, hB19, hl66, rfl⟩ (by omega) (.cons rfl (.cons rfl (.cons rfl (.cons rfl (.cons rfl (.cons rfl (.cons rfl (.cons rfl (.cons rfl (.nil))))))))))
      refine Sq.nil ?_
      refine Eq.next ?_
      refine Cq.els rfl ?_
      refine Cq.exit ?_
      refine Eq.past ?_
      refine Eq.past ?_
      refine Eq.hit ?_
      refine Eq.next ?_
      refine Cq.seq ?_
      refine Cq.region ?_
      refine Sq.loadAgg agg27 .plain rfl rfl hBr rfl ?_
      refine Sq.storeAgg agg27 .plain rfl rfl (one_cons rfl (one_cons (Rows.one (OwnRows.rows hor)) (one_cons (Row.one (Own.row hoa)) one_nil))) hB19 rfl rfl (fun w284 g285 hB286 => ?_)
      have hs287 := World.grownBy.size g285
      replace E := E.grown g285 (fun k hk => by injection hk with hk; subst hk; omega)
      replace hor := hor.stored g285 hB19 (by decide) (by decide)
      replace hoa := hoa.stored g285 hB19 (by decide)
      replace hB19 := hB286
      refine Sq.assign .plain rfl rfl ?_
      refine Sq.nil ?_
      refine Eq.next ?_
      refine Cq.ret ?_
      refine Eq.retCell2 rfl rfl agg27 hB19 rfl rfl ?_
      have e8 := ord_done (f := step2 a b) (s := ((0, 0) : Int × Int)) (L := (letters (orI a.al b.al))) (i := i.toNat) (by omega) (by omega)
      rw [List.take_of_length_le (by omega), e8] at hys
      have e10 := rowsAt_fin2 (f := step2 a b) (s := ((0, 0) : Int × Int)) (L := (letters (orI a.al b.al))) (i := i.toNat) (by omega) (by omega)
      rw [e10] at hxs
      have hok : prodOk a b k = true := prodOk_spec.2 ⟨hv, hv', by omega, by rw [ord2, ← e8]; exact hlm⟩
      have e : prodA a b k = (⟨(orI a.al b.al), xss, ys⟩ : A) := by rw [hxs, hys]; rfl
      exact ⟨⟨_, by rw [hok], by rw [if_pos hok, e]; exact ⟨_, _, rfl, OwnRows.now hor, hoa⟩⟩, E⟩
    refine Sq.notF (.met rfl rfl rfl) rfl rfl ?_
    refine Sq.pickF .plain rfl rfl rfl ?_
    refine Sq.move .plain rfl rfl ?_
    refine Sq.off rfl rfl rfl rfl rfl rfl ?_
    refine Sq.off rfl rfl rfl rfl rfl rfl ?_
    refine Sq.pickT .plain rfl rfl rfl ?_
    refine Sq.move .plain rfl rfl ?_
    refine Sq.off rfl rfl rfl rfl rfl rfl ?_
    refine Sq.off rfl rfl rfl rfl rfl rfl ?_
    refine Sq.pickT .plain rfl rfl rfl ?_
    refine Sq.nil ?_
    refine Eq.next ?_
    refine Cq.thn rfl ?_
    refine Cq.seq ?_
    refine Cq.region ?_
    refine Sq.build st27 rfl rfl .plain rfl rfl one_nil rfl ?_
    refine Sq.storeAgg agg27 .plain rfl rfl (one_cons rfl (one_cons rfl (one_cons rfl one_nil))) hB19 rfl rfl (fun w288 g289 hB290 => ?_)
    have hs291 := World.grownBy.size g289
    replace E := E.grown g289 (fun k hk => by injection hk with hk; subst hk; omega)
    replace hB19 := hB290
    refine Sq.assign .plain rfl rfl ?_
    refine Sq.nil ?_
    refine Eq.next ?_
    refine Cq.ret ?_
    refine Eq.pastRet ?_
    refine Eq.retCell2 rfl rfl agg27 hB19 rfl rfl ?_
    have hno : prodOk a b k = false := prodOk_no (.inr (.inl hv'))
    exact ⟨⟨_, by rw [hno], by rw [if_neg (by rw [hno]; decide)]; exact ⟨_, _, rfl, OwnRows.nil _ _ _ _ _, Own.nil _ _ _⟩⟩, E⟩
  refine Sq.notF .plain rfl rfl ?_
  refine Sq.move .plain rfl rfl ?_
  refine Sq.off rfl rfl rfl rfl rfl rfl ?_
  refine Sq.off rfl rfl rfl rfl rfl rfl ?_
  refine Sq.off rfl rfl rfl rfl rfl rfl ?_
  refine Sq.pickT .plain rfl rfl rfl ?_
  refine Sq.move .plain rfl rfl ?_
  refine Sq.off rfl rfl rfl rfl rfl rfl ?_
  refine Sq.off rfl rfl rfl rfl rfl rfl ?_
  refine Sq.pickT .plain rfl rfl rfl ?_
  refine Sq.move .plain rfl rfl ?_
  refine Sq.off rfl rfl rfl rfl rfl rfl ?_
  refine Sq.off rfl rfl rfl rfl rfl rfl ?_
  refine Sq.pickT .plain rfl rfl rfl ?_
  refine Sq.nil ?_
  refine Eq.next ?_
  refine Cq.thn rfl ?_
  refine Cq.seq ?_
  refine Cq.region ?_
  refine Sq.build st27 rfl rfl .plain rfl rfl one_nil rfl ?_
  refine Sq.storeAgg agg27 .plain rfl rfl (one_cons rfl (one_cons rfl (one_cons rfl one_nil))) hB19 rfl rfl (fun w292 g293 hB294 => ?_)
  have hs295 := World.grownBy.size g293
  replace E := E.grown g293 (fun k hk => by injection hk with hk; subst hk; omega)
  replace hB19 := hB294
  refine Sq.assign .plain rfl rfl ?_
  refine Sq.nil ?_
  refine Eq.next ?_
  refine Cq.ret ?_
  refine Eq.pastRet ?_
  refine Eq.retCell2 rfl rfl agg27 hB19 rfl rfl ?_
  have hno : prodOk a b k = false := prodOk_no (.inl hv)
  exact ⟨⟨_, by rw [hno], by rw [if_neg (by rw [hno]; decide)]; exact ⟨_, _, rfl, OwnRows.nil _ _ _ _ _, Own.nil _ _ _⟩⟩, E⟩
theorem sProd_c_T (w0 : World) (a b : A) (nx ac nx' ac' : Value) (hnx : Rows w0 52 3 nx a.next) (hac : Bools w0 4 ac a.acc) (hnx' : Rows w0 52 3 nx' b.next) (hac' : Bools w0 4 ac' b.acc) (k : Int) (hC : prodOk a b k = true) : Ret Try.prog 20 #[Value.agg #[Value.int .i64 a.al, nx, ac], Value.agg #[Value.int .i64 b.al, nx', ac'], Value.int .i64 k] w0 (fun v w => (∃ u, v = .tuple #[u, .bool true] ∧ OwnA w w0.heap.size u (prodA a b k)) ∧ Ext w0 w) :=
  (sProd_c w0 a b nx ac nx' ac' hnx hac hnx' hac' k).mono fun v w h => by rw [hC, if_pos rfl] at h; exact h
theorem sProd_c_F (w0 : World) (a b : A) (nx ac nx' ac' : Value) (hnx : Rows w0 52 3 nx a.next) (hac : Bools w0 4 ac a.acc) (hnx' : Rows w0 52 3 nx' b.next) (hac' : Bools w0 4 ac' b.acc) (k : Int) (hC : prodOk a b k = false) : Ret Try.prog 20 #[Value.agg #[Value.int .i64 a.al, nx, ac], Value.agg #[Value.int .i64 b.al, nx', ac'], Value.int .i64 k] w0 (fun v w => (∃ u, v = .tuple #[u, .bool false] ∧ OwnA w w0.heap.size u (zeroA)) ∧ Ext w0 w) :=
  (sProd_c w0 a b nx ac nx' ac' hnx hac hnx' hac' k).mono fun v w h => by rw [hC, if_neg (by decide)] at h; exact h
end Go.Proofs.Ytdkdpmmfebdeaaa
set_option linter.unusedSimpArgs false
set_option linter.unusedVariables false
namespace Go.Proofs.Ytdkdpmmfebdeaaa
open Go.RowKit
set_option maxRecDepth 100000 in
theorem prod1_c (w0 : World) (q y0 : Int) (a b : A) (bs bn bt b1 b2 : Nat) (xs ys : List Int) (hS : Blk w0 bs 60 [Value.slice (some ⟨b1, 0, none⟩) a.next.length a.next.length]) (hN : Blk w0 bn 3 [Value.int .i64 (List.length b.next : Int)]) (hT : Blk w0 bt 60 [Value.slice (some ⟨b2, 0, none⟩) b.next.length b.next.length]) (h1 : Blk w0 b1 64 (xs.map (Value.int .i64))) (h2 : Blk w0 b2 64 (ys.map (Value.int .i64))) (hTab : Tab a xs) (hTab' : Tab b ys) (hv : validA a = true) (hv' : validA b = true) (hq : InP a b q) (hx : 0 ≤ y0 ∧ y0 < 6) : Ret Try.prog 59 #[Value.int .i64 q, Value.int .i64 y0, Value.pointer (some ⟨bs, 0, none⟩), Value.pointer (some ⟨bn, 0, none⟩), Value.pointer (some ⟨bt, 0, none⟩)] w0 (fun v w => v = .int .i64 (fP a b q y0) ∧ Ext w0 w) := by
  have E := Ext.refl w0
  have hz := zero_in hv'
  have hz2 := (validA_spec.1 hv').2.1
  have hdv : (0 ≤ q / (List.length b.next : Int) ∧ q / (List.length b.next : Int) < (a.next.length : Int)) ∧ 0 ≤ q % (List.length b.next : Int) ∧ q % (List.length b.next : Int) < (List.length b.next : Int) := inP_div hv' hq
  have hmu := fP_mul hv hv' hq hx
  have hg2 : 0 ≤ goA b (q % (List.length b.next : Int)) y0 ∧ goA b (q % (List.length b.next : Int)) y0 < b.next.length := goA_in hv' hdv.2 hx
  have hqb : 0 ≤ q ∧ q ≤ 144 := ⟨hq.1, by have h8 := hq.2; have h9 := le144 hv hv'; omega⟩
  refine Ret.of (args := [Value.int .i64 q, Value.int .i64 y0, Value.pointer (some ⟨bs, 0, none⟩), Value.pointer (some ⟨bn, 0, none⟩), Value.pointer (some ⟨bt, 0, none⟩)]) Try.func59 rfl rfl rfl ?_
  rintro _ rfl
  show Cq _ _ _ _ [(0, Value.int .i64 q), (1, Value.int .i64 y0), (2, Value.pointer (some ⟨bs, 0, none⟩)), (3, Value.pointer (some ⟨bn, 0, none⟩)), (4, Value.pointer (some ⟨bt, 0, none⟩))] _
  refine Cq.seq ?_
  refine Cq.region ?_
  refine Sq.assign .plain rfl rfl ?_
  refine Sq.nil ?_
  refine Eq.next ?_
  refine Cq.seq ?_
  refine Cq.drawS 19 (fun w' => Blk w' bs 60 [Value.slice (some ⟨b1, 0, none⟩) a.next.length a.next.length] ∧ Blk w' bn 3 [Value.int .i64 (List.length b.next : Int)] ∧ Blk w' bt 60 [Value.slice (some ⟨b2, 0, none⟩) b.next.length b.next.length] ∧ Blk w' b1 64 (xs.map (Value.int .i64)) ∧ Blk w' b2 64 (ys.map (Value.int .i64))) mixed (⟨hS, hN, hT, h1, h2⟩) (fun w1 e2 hS => ?_)
  clear hS
  have hs3 := Below.size e2
  replace E := E.trans e2
  replace hS := hS.ext e2
  replace hN := hN.ext e2
  replace hT := hT.ext e2
  replace h1 := h1.ext e2
  replace h2 := h2.ext e2
  refine Gq.st 0 rfl (by kernel_rfl) rfl .plain rfl (fun _ _ _ h => h) ⟨hS, hN, hT, h1, h2⟩ (fun w' x => Still.loadB one60 rfl x.1 rfl) ?_
  refine Gq.st 1 rfl (by kernel_rfl) rfl .plain rfl (fun _ _ _ h => h) ⟨hS, hN, hT, h1, h2⟩ (fun w' x => Still.move rfl) ?_
  refine Gq.st 2 rfl (by kernel_rfl) rfl .plain rfl (fun _ _ _ h => h) ⟨hS, hN, hT, h1, h2⟩ (fun w' x => Still.loadB one3 rfl x.2.1 rfl) ?_
  refine Gq.st 3 rfl (by kernel_rfl) rfl .plain rfl (fun _ _ _ h => h) ⟨hS, hN, hT, h1, h2⟩ (fun w' x => Still.quo rfl rfl (by omega)) ?_
  refine Gq.st 4 rfl (by kernel_rfl) rfl .plain rfl (fun _ _ _ h => h) ⟨hS, hN, hT, h1, h2⟩ (fun w' x => Still.move rfl) ?_
  refine Gq.st 5 rfl (by kernel_rfl) rfl .plain rfl (fun _ _ _ h => h) ⟨hS, hN, hT, h1, h2⟩ (fun w' x => Still.ixS slk60 rfl rfl (by omega) (by omega)) ?_
  refine Gq.st 6 rfl (by kernel_rfl) rfl .plain rfl (fun _ _ _ h => h) ⟨hS, hN, hT, h1, h2⟩ (fun w' x => Still.ixA ar64 rfl rfl (by omega) (by omega)) ?_
  refine Gq.st 7 rfl (by kernel_rfl) rfl .plain rfl (fun _ _ _ h => h) ⟨hS, hN, hT, h1, h2⟩ (fun w' x => Still.loadB one3 rfl x.2.2.2.1 (by rw [Nat.zero_add, List.getElem?_map, hTab.2 (q / (List.length b.next : Int)) y0 (by first | omega | assumption) (by omega)]; rfl)) ?_
  refine Gq.st 8 rfl (by kernel_rfl) rfl .plain rfl (fun _ _ _ h => h) ⟨hS, hN, hT, h1, h2⟩ (fun w' x => Still.loadB one3 rfl x.2.1 rfl) ?_
  refine Gq.st 9 rfl (by kernel_rfl) rfl .plain rfl (fun _ _ _ h => h) ⟨hS, hN, hT, h1, h2⟩ (fun w' x => Still.mul rfl rfl (by omega)) ?_
  refine Gq.st 10 rfl (by kernel_rfl) rfl .plain rfl (fun _ _ _ h => h) ⟨hS, hN, hT, h1, h2⟩ (fun w' x => Still.loadB one60 rfl x.2.2.1 rfl) ?_
  refine Gq.st 11 rfl (by kernel_rfl) rfl .plain rfl (fun _ _ _ h => h) ⟨hS, hN, hT, h1, h2⟩ (fun w' x => Still.move rfl) ?_
  refine Gq.st 12 rfl (by kernel_rfl) rfl .plain rfl (fun _ _ _ h => h) ⟨hS, hN, hT, h1, h2⟩ (fun w' x => Still.loadB one3 rfl x.2.1 rfl) ?_
  refine Gq.st 13 rfl (by kernel_rfl) rfl .plain rfl (fun _ _ _ h => h) ⟨hS, hN, hT, h1, h2⟩ (fun w' x => Still.rem rfl rfl (by omega)) ?_
  refine Gq.st 14 rfl (by kernel_rfl) rfl .plain rfl (fun _ _ _ h => h) ⟨hS, hN, hT, h1, h2⟩ (fun w' x => Still.move rfl) ?_
  refine Gq.st 15 rfl (by kernel_rfl) rfl .plain rfl (fun _ _ _ h => h) ⟨hS, hN, hT, h1, h2⟩ (fun w' x => Still.ixS slk60 rfl rfl (by omega) (by omega)) ?_
  refine Gq.st 16 rfl (by kernel_rfl) rfl .plain rfl (fun _ _ _ h => h) ⟨hS, hN, hT, h1, h2⟩ (fun w' x => Still.ixA ar64 rfl rfl (by omega) (by omega)) ?_
  refine Gq.st 17 rfl (by kernel_rfl) rfl .plain rfl (fun _ _ _ h => h) ⟨hS, hN, hT, h1, h2⟩ (fun w' x => Still.loadB one3 rfl x.2.2.2.2 (by rw [Nat.zero_add, List.getElem?_map, hTab'.2 (q % (List.length b.next : Int)) y0 (by first | omega | assumption) (by omega)]; rfl)) ?_
  refine Gq.st 18 rfl (by kernel_rfl) rfl .plain rfl (fun _ _ _ h => h) ⟨hS, hN, hT, h1, h2⟩ (fun w' x => Still.add rfl rfl (by omega)) ?_
  refine Gq.one 19 rfl (by kernel_rfl) ?_
  refine Sq.assign .plain rfl rfl ?_
  refine Sq.nil ?_
  refine Eq.goes (fun h => absurd h (by decide)) ?_
  refine Gq.done (by kernel_rfl) ?_
  refine Eq.next ?_
  refine Cq.ret ?_
  refine Eq.ret1 rfl rfl ?_
  exact ⟨rfl, E⟩
end Go.Proofs.Ytdkdpmmfebdeaaa
