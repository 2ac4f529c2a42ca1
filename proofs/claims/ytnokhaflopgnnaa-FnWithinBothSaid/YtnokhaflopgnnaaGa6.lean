/-
  The texts of this proof, joined (wip/merge.py): the calculus of slots, plain mathematics, walks.
-/
import Derived.Test.YtnokhaflopgnnaaGa5
set_option linter.unusedSimpArgs false
set_option linter.unusedVariables false
namespace Go.Proofs.Ytnokhaflopgnnaa
open Go.RowKit
set_option maxRecDepth 100000 in
theorem lDifferOf (w0 : World) (e : TypeId) (a0 : Option Addr) (c0 : Nat) (cs : List UInt8) (hc : Bytes w0 e (.slice a0 cs.length c0) cs) (hcap : cs.length ≤ c0) : Ret Try.prog 14 #[Value.slice a0 cs.length c0] w0 (fun v w => v = .bool true ∧ Ext w0 w) := by
  have E := Ext.refl w0
  refine Ret.of (args := [Value.slice a0 cs.length c0]) Try.func14 rfl rfl rfl ?_
  rintro _ rfl
  show Cq _ _ _ _ [(0, Value.slice a0 cs.length c0)] _
  refine Cq.seq ?_
  refine Cq.region ?_
  refine Sq.assign .plain rfl rfl ?_
  refine Sq.nil ?_
  refine Eq.next ?_
  refine Cq.seq ?_
  refine Cq.seq ?_
  refine Cq.region ?_
  refine Sq.move .plain rfl rfl ?_
  refine Sq.lenBytes (hc.ext E) .plain rfl und22 rfl ?_
  refine Sq.gtr .plain rfl rfl rfl ?_
  refine Sq.part (fun c1 => ?_) (fun c1 => ?_)
  · refine Sq.nil ?_
    refine Eq.next ?_
    refine Cq.thn rfl ?_
    refine Cq.seq ?_
    refine Cq.region ?_
    refine Sq.assign .plain rfl rfl ?_
    refine Sq.nil ?_
    refine Eq.next ?_
    refine Cq.ret ?_
    refine Eq.pastRet ?_
    refine Eq.ret1 rfl rfl ?_
    exact ⟨rfl, E⟩
  refine Sq.nil ?_
  refine Eq.next ?_
  refine Cq.els rfl ?_
  refine Cq.skip ?_
  refine Eq.next ?_
  refine Cq.seq ?_
  refine Cq.region ?_
  refine Sq.move .plain rfl rfl ?_
  refine Sq.call fn15 .plain rfl rfl (drawDif_c _ _ _ _ _ (hc.ext E) hcap) ?_
  rintro v2 w3 ⟨⟨u5, v6, aX7, aY8, rfl, ⟨nxX9, acX10, rfl, hnX11, haX12⟩, ⟨nxY13, acY14, rfl, hnY15, haY16⟩, hsmX17, hsmY18⟩, e4⟩
  have hs19 := Below.size E
  have hs20 := Below.size e4
  replace E := E.trans e4
  refine Sq.move .plain rfl rfl ?_
  refine Sq.extract .plain rfl rfl rfl ?_
  refine Sq.extract .plain rfl rfl rfl ?_
  refine Sq.alloc zero26 .plain rfl (fun b21 w22 e23 hB24 hlo25 => ?_)
  have hd26 := Nat.le_trans (Below.size E) hlo25
  have hs27 := Below.size e23
  replace E := E.trans e23
  replace hnX11 := hnX11.ext e23
  replace haX12 := haX12.ext e23
  replace hnY15 := hnY15.ext e23
  replace haY16 := haY16.ext e23
  refine Sq.alloc zero26 .plain rfl (fun b28 w29 e30 hB31 hlo32 => ?_)
  have hd33 := Nat.le_trans (Below.size E) hlo32
  have hd34 := Nat.lt_of_lt_of_le hB24.lt hlo32
  have hs35 := Below.size e30
  replace E := E.trans e30
  replace hnX11 := hnX11.ext e30
  replace haX12 := haX12.ext e30
  replace hnY15 := hnY15.ext e30
  replace haY16 := haY16.ext e30
  replace hB24 := hB24.ext e30
  refine Sq.storeAgg agg26 .plain rfl rfl (one_cons rfl (one_cons (Rows.one hnX11) (one_cons (Row.one haX12) one_nil))) hB24 rfl rfl (fun w36 g37 hB38 => ?_)
  have hs39 := World.grownBy.size g37
  replace E := E.grown g37 (fun k hk => by injection hk with hk; subst hk; omega)
  replace hnX11 := hnX11.stored g37 hB24 (by decide) (by decide)
  replace haX12 := haX12.stored g37 hB24 (by decide)
  replace hnY15 := hnY15.stored g37 hB24 (by decide) (by decide)
  replace haY16 := haY16.stored g37 hB24 (by decide)
  replace hB31 := hB31.grown g37 (by intro h; injection h with h; omega)
  replace hB24 := hB38
  refine Sq.storeAgg agg26 .plain rfl rfl (one_cons rfl (one_cons (Rows.one hnY15) (one_cons (Row.one haY16) one_nil))) hB31 rfl rfl (fun w40 g41 hB42 => ?_)
  have hs43 := World.grownBy.size g41
  replace E := E.grown g41 (fun k hk => by injection hk with hk; subst hk; omega)
  replace hnX11 := hnX11.stored g41 hB31 (by decide) (by decide)
  replace haX12 := haX12.stored g41 hB31 (by decide)
  replace hnY15 := hnY15.stored g41 hB31 (by decide) (by decide)
  replace haY16 := haY16.stored g41 hB31 (by decide)
  replace hB24 := hB24.grown g41 (by intro h; injection h with h; omega)
  replace hB31 := hB42
  refine Sq.nil ?_
  refine Eq.next ?_
  refine Cq.seq ?_
  refine Cq.region ?_
  refine Sq.loadAgg agg26 .plain rfl rfl hB24 rfl ?_
  refine Sq.loadAgg agg26 .plain rfl rfl hB31 rfl ?_
  have hd47 := hB24.lt
  have hd48 := hB31.lt
  refine Sq.call fn16 .plain rfl rfl (fDif_c _ aX7 aY8 _ _ _ _ hnX11 haX12 hnY15 haY16) ?_
  rintro _ w45 ⟨rfl, e46⟩
  have hs49 := Below.size E
  have hs50 := Below.size e46
  replace E := E.trans e46
  replace hnX11 := hnX11.ext e46
  replace haX12 := haX12.ext e46
  replace hnY15 := hnY15.ext e46
  replace haY16 := haY16.ext e46
  replace hB24 := hB24.ext e46
  replace hB31 := hB31.ext e46
  refine Sq.move .plain rfl rfl ?_
  refine Sq.extract .plain rfl rfl rfl ?_
  refine Sq.extract .plain rfl rfl rfl ?_
  refine Sq.assign .plain rfl rfl ?_
  refine Sq.assign .plain rfl rfl ?_
  refine Sq.nil ?_
  refine Eq.next ?_
  refine Cq.seq ?_
  refine Cq.region ?_
  refine Sq.loadAgg agg26 .plain rfl rfl hB24 rfl ?_
  refine Sq.loadAgg agg26 .plain rfl rfl hB31 rfl ?_
  have hd54 := hB24.lt
  have hd55 := hB31.lt
  refine Sq.call fn17 .plain rfl rfl (sfDif_c _ aX7 aY8 _ _ _ _ hnX11 haX12 hnY15 haY16) ?_
  rintro _ w52 ⟨rfl, e53⟩
  have hs56 := Below.size E
  have hs57 := Below.size e53
  replace E := E.trans e53
  replace hnX11 := hnX11.ext e53
  replace haX12 := haX12.ext e53
  replace hnY15 := hnY15.ext e53
  replace haY16 := haY16.ext e53
  replace hB24 := hB24.ext e53
  replace hB31 := hB31.ext e53
  refine Sq.move .plain rfl rfl ?_
  refine Sq.extract .plain rfl rfl rfl ?_
  refine Sq.extract .plain rfl rfl rfl ?_
  refine Sq.assign .plain rfl rfl ?_
  refine Sq.assign .plain rfl rfl ?_
  refine Sq.nil ?_
  refine Eq.next ?_
  refine Cq.seq ?_
  refine Cq.seq ?_
  refine Cq.region ?_
  refine Sq.move .plain rfl rfl ?_
  refine Sq.move .plain rfl rfl ?_
  refine Sq.neqS .plain rfl rfl rfl ?_
  refine Sq.isF (fun h => h rfl) ?_
  refine Sq.move .plain rfl rfl ?_
  refine Sq.move (.met rfl rfl rfl) rfl rfl ?_
  refine Sq.move (.met rfl rfl rfl) rfl rfl ?_
  refine Sq.neqB und4 (.met rfl rfl rfl) rfl rfl rfl ?_
  refine Sq.beF (by simp) ?_
  refine Sq.pickF .plain rfl rfl rfl ?_
  refine Sq.move .plain rfl rfl ?_
  refine Sq.loadAgg agg26 (.met rfl rfl rfl) rfl rfl hB24 rfl ?_
  refine Sq.loadAgg agg26 (.met rfl rfl rfl) rfl rfl hB31 rfl ?_
  have hd61 := hB24.lt
  have hd62 := hB31.lt
  refine Sq.call fn19 (.met rfl rfl rfl) rfl rfl (agTwo_c _ aX7 aY8 _ _ _ _ hnX11 haX12 hnY15 haY16) ?_
  rintro _ w59 ⟨rfl, e60⟩
  have hs63 := Below.size E
  have hs64 := Below.size e60
  replace E := E.trans e60
  replace hnX11 := hnX11.ext e60
  replace haX12 := haX12.ext e60
  replace hnY15 := hnY15.ext e60
  replace haY16 := haY16.ext e60
  replace hB24 := hB24.ext e60
  replace hB31 := hB31.ext e60
  refine Sq.partB (fun hC => ?_) (fun hC => ?_)
  · refine Sq.notT (.met rfl rfl rfl) rfl rfl ?_
    refine Sq.pickF .plain rfl rfl rfl ?_
    refine Sq.nil ?_
    refine Eq.next ?_
    refine Cq.els rfl ?_
    refine Cq.skip ?_
    refine Eq.next ?_
    refine Cq.seq ?_
    refine Cq.region ?_
    refine Sq.loadAgg agg26 .plain rfl rfl hB31 rfl ?_
    refine Sq.loadAgg agg26 .plain rfl rfl hB24 rfl ?_
    have hd68 := hB24.lt
    have hd69 := hB31.lt
    refine Sq.call fn16 .plain rfl rfl (fDif_c _ aY8 aX7 _ _ _ _ hnY15 haY16 hnX11 haX12) ?_
    rintro _ w66 ⟨rfl, e67⟩
    have hs70 := Below.size E
    have hs71 := Below.size e67
    replace E := E.trans e67
    replace hnX11 := hnX11.ext e67
    replace haX12 := haX12.ext e67
    replace hnY15 := hnY15.ext e67
    replace haY16 := haY16.ext e67
    replace hB24 := hB24.ext e67
    replace hB31 := hB31.ext e67
    refine Sq.move .plain rfl rfl ?_
    refine Sq.extract .plain rfl rfl rfl ?_
    refine Sq.extract .plain rfl rfl rfl ?_
    refine Sq.assign .plain rfl rfl ?_
    refine Sq.assign .plain rfl rfl ?_
    refine Sq.nil ?_
    refine Eq.next ?_
    refine Cq.seq ?_
    refine Cq.seq ?_
    refine Cq.region ?_
    refine Sq.move .plain rfl rfl ?_
    refine Sq.move .plain rfl rfl ?_
    refine Sq.neqS .plain rfl rfl rfl ?_
    refine Sq.isF (by rw [dif_turn]; exact fun h => h rfl) ?_
    refine Sq.move .plain rfl rfl ?_
    refine Sq.move (.met rfl rfl rfl) rfl rfl ?_
    refine Sq.move (.met rfl rfl rfl) rfl rfl ?_
    refine Sq.neqB und4 (.met rfl rfl rfl) rfl rfl rfl ?_
    refine Sq.beF (by rw [dif_turn]; simp) ?_
    refine Sq.pickF .plain rfl rfl rfl ?_
    refine Sq.move .plain rfl rfl ?_
    refine Sq.loadAgg agg26 (.met rfl rfl rfl) rfl rfl hB24 rfl ?_
    refine Sq.loadAgg agg26 (.met rfl rfl rfl) rfl rfl hB31 rfl ?_
    have hd75 := hB24.lt
    have hd76 := hB31.lt
    refine Sq.call fn40 (.met rfl rfl rfl) rfl rfl (same_c _ aX7 aY8 _ _ _ _ hnX11 haX12 hnY15 haY16) ?_
    rintro _ w73 ⟨rfl, e74⟩
    have hs77 := Below.size E
    have hs78 := Below.size e74
    replace E := E.trans e74
    replace hnX11 := hnX11.ext e74
    replace haX12 := haX12.ext e74
    replace hnY15 := hnY15.ext e74
    replace haY16 := haY16.ext e74
    replace hB24 := hB24.ext e74
    replace hB31 := hB31.ext e74
    refine Sq.move (.met rfl rfl rfl) rfl rfl ?_
    refine Sq.eqlB und4 (.met rfl rfl rfl) rfl rfl rfl ?_
    refine Sq.beF (by rw [same_dif hC]; cases (fDif _ _).isSome <;> rfl) ?_
    refine Sq.pickF .plain rfl rfl rfl ?_
    refine Sq.nil ?_
    refine Eq.next ?_
    refine Cq.els rfl ?_
    refine Cq.skip ?_
    refine Eq.next ?_
    refine Cq.seq ?_
    refine Cq.drawS 17 (fun w' => Blk w' b21 26 [Value.int .i64 aX7.al, nxX9, acX10] ∧ Blk w' b28 26 [Value.int .i64 aY8.al, nxY13, acY14]) mixed (⟨hB24, hB31⟩) (fun w79 e80 hS => ?_)
    clear hS
    have hs81 := Below.size e80
    replace E := E.trans e80
    replace hnX11 := hnX11.ext e80
    replace haX12 := haX12.ext e80
    replace hnY15 := hnY15.ext e80
    replace haY16 := haY16.ext e80
    replace hB24 := hB24.ext e80
    replace hB31 := hB31.ext e80
    refine Gq.st 0 rfl (by kernel_rfl) rfl .plain rfl (fun _ _ _ h => h) ⟨hB24, hB31⟩ (fun w' x => Still.move rfl) ?_
    refine Gq.partB (fun hd => ?_) (fun hd => ?_)
    · refine Gq.st 1 rfl (by kernel_rfl) rfl .plain rfl (fun _ _ _ h => h) ⟨hB24, hB31⟩ (fun w' x => Still.notT rfl) ?_
      refine Gq.st 2 rfl (by kernel_rfl) rfl .plain rfl (fun _ _ _ h => h) ⟨hB24, hB31⟩ (fun w' x => Still.move rfl) ?_
      refine Gq.st 3 rfl (by kernel_rfl) rfl (.met rfl rfl rfl) rfl (fun _ _ _ h => h) ⟨hB24, hB31⟩ (fun w' x => Still.loadAgg agg26 rfl x.1 rfl) ?_
      refine Gq.st 4 rfl (by kernel_rfl) rfl (.met rfl rfl rfl) rfl (fun _ _ _ h => h) ⟨hB24, hB31⟩ (fun w' x => Still.move rfl) ?_
      refine Gq.st 6 rfl (by kernel_rfl) rfl (.met rfl rfl rfl) rfl (fun _ _ _ h => h) ⟨hB24, hB31⟩ (fun w' x => Still.loadAgg agg26 rfl x.2 rfl) ?_
      refine Gq.st 7 rfl (by kernel_rfl) rfl (.met rfl rfl rfl) rfl (fun _ _ _ h => h) ⟨hB24, hB31⟩ (fun w' x => Still.move rfl) ?_
      refine Gq.one 5 rfl (by kernel_rfl) ?_
      have hd85 := hB24.lt
      have hd86 := hB31.lt
      refine Sq.call fn21 (.met rfl rfl rfl) rfl rfl (accepts_c _ aX7 _ _ hnX11 haX12 ((txt ((fDif aX7 aY8).getD []))) (by first | omega | exact Nat.le_trans dif_size (by decide) | exact Nat.le_trans (size_cut _) (Nat.le_trans dif_size (by decide)))) ?_
      rintro _ w83 ⟨rfl, e84⟩
      have hs87 := Below.size E
      have hs88 := Below.size e84
      replace E := E.trans e84
      replace hnY15 := hnY15.ext e84
      replace haY16 := haY16.ext e84
      replace hB24 := hB24.ext e84
      replace hB31 := hB31.ext e84
      refine Sq.nil ?_
      refine Eq.goes (fun _ => ⟨hB24, hB31⟩) ?_
      refine Gq.one 8 rfl (by kernel_rfl) ?_
      have hd92 := hB24.lt
      have hd93 := hB31.lt
      refine Sq.call fn21 (.met rfl rfl rfl) rfl rfl (accepts_c _ aY8 _ _ hnY15 haY16 ((txt ((fDif aX7 aY8).getD []))) (by first | omega | exact Nat.le_trans dif_size (by decide) | exact Nat.le_trans (size_cut _) (Nat.le_trans dif_size (by decide)))) ?_
      rintro _ w90 ⟨rfl, e91⟩
      have hs94 := Below.size E
      have hs95 := Below.size e91
      replace E := E.trans e91
      replace hB24 := hB24.ext e91
      replace hB31 := hB31.ext e91
      refine Sq.nil ?_
      refine Eq.goes (fun _ => ⟨hB24, hB31⟩) ?_
      refine Gq.st 9 rfl (by kernel_rfl) rfl (.met rfl rfl rfl) rfl (fun _ _ _ h => h) ⟨hB24, hB31⟩ (fun w' x => Still.neqB und4 rfl rfl) ?_
      refine Gq.beT ((dif_word hC hd).1) ?_
      refine Gq.st 10 rfl (by kernel_rfl) rfl (.met rfl rfl rfl) rfl (fun _ _ _ h => h) ⟨hB24, hB31⟩ (fun w' x => Still.move rfl) ?_
      refine Gq.st 11 rfl (by kernel_rfl) rfl (.met rfl rfl rfl) rfl (fun _ _ _ h => h) ⟨hB24, hB31⟩ (fun w' x => Still.move rfl) ?_
      refine Gq.st 12 rfl (by kernel_rfl) rfl (.met rfl rfl rfl) rfl (fun _ _ _ h => h) ⟨hB24, hB31⟩ (fun w' x => Still.fieldAddr fld26_0 rfl) ?_
      refine Gq.st 13 rfl (by kernel_rfl) rfl (.met rfl rfl rfl) rfl (fun _ _ _ h => h) ⟨hB24, hB31⟩ (fun w' x => Still.loadB one3 rfl x.1 rfl) ?_
      refine Gq.one 14 rfl (by kernel_rfl) ?_
      refine Sq.call fn20 (.met rfl rfl rfl) rfl rfl (within_c ((txt ((fDif aX7 aY8).getD []))) aX7.al _) ?_
      rintro _ _ ⟨rfl, rfl⟩
      refine Sq.beT ((dif_word hC hd).2.1) ?_
      refine Sq.nil ?_
      refine Eq.goes (fun _ => ⟨hB24, hB31⟩) ?_
      refine Gq.st 15 rfl (by kernel_rfl) rfl (.met rfl rfl rfl) rfl (fun _ _ _ h => h) ⟨hB24, hB31⟩ (fun w' x => Still.pickT rfl rfl) ?_
      refine Gq.st 16 rfl (by kernel_rfl) rfl .plain rfl (fun _ _ _ h => h) ⟨hB24, hB31⟩ (fun w' x => Still.pickF rfl rfl) ?_
      refine Gq.one 17 rfl (by kernel_rfl) ?_
      refine Sq.assign .plain rfl rfl ?_
      refine Sq.nil ?_
      refine Eq.goes (fun h => absurd h (by decide)) ?_
      refine Gq.done (by kernel_rfl) ?_
      refine Eq.next ?_
      refine Cq.ret ?_
      refine Eq.ret1 rfl rfl ?_
      exact ⟨rfl, E⟩
    refine Gq.st 1 rfl (by kernel_rfl) rfl .plain rfl (fun _ _ _ h => h) ⟨hB24, hB31⟩ (fun w' x => Still.notF rfl) ?_
    refine Gq.st 2 rfl (by kernel_rfl) rfl .plain rfl (fun _ _ _ h => h) ⟨hB24, hB31⟩ (fun w' x => Still.move rfl) ?_
    refine Gq.off 3 rfl (by kernel_rfl) rfl rfl rfl rfl rfl rfl (fun _ _ _ h => h) ⟨hB24, hB31⟩ ?_
    refine Gq.off 4 rfl (by kernel_rfl) rfl rfl rfl rfl rfl rfl (fun _ _ _ h => h) ⟨hB24, hB31⟩ ?_
    refine Gq.off 5 rfl (by kernel_rfl) rfl rfl rfl rfl rfl rfl (fun _ _ _ h => h) ⟨hB24, hB31⟩ ?_
    refine Gq.off 6 rfl (by kernel_rfl) rfl rfl rfl rfl rfl rfl (fun _ _ _ h => h) ⟨hB24, hB31⟩ ?_
    refine Gq.off 7 rfl (by kernel_rfl) rfl rfl rfl rfl rfl rfl (fun _ _ _ h => h) ⟨hB24, hB31⟩ ?_
    refine Gq.off 8 rfl (by kernel_rfl) rfl rfl rfl rfl rfl rfl (fun _ _ _ h => h) ⟨hB24, hB31⟩ ?_
    refine Gq.off 9 rfl (by kernel_rfl) rfl rfl rfl rfl rfl rfl (fun _ _ _ h => h) ⟨hB24, hB31⟩ ?_
    refine Gq.off 10 rfl (by kernel_rfl) rfl rfl rfl rfl rfl rfl (fun _ _ _ h => h) ⟨hB24, hB31⟩ ?_
    refine Gq.offU 11 rfl (by kernel_rfl) rfl rfl rfl rfl rfl rfl (fun _ _ _ h => h) ⟨hB24, hB31⟩ ?_
    refine Gq.offU 12 rfl (by kernel_rfl) rfl rfl rfl rfl rfl rfl (fun _ _ _ h => h) ⟨hB24, hB31⟩ ?_
    refine Gq.offU 13 rfl (by kernel_rfl) rfl rfl rfl rfl rfl rfl (fun _ _ _ h => h) ⟨hB24, hB31⟩ ?_
    refine Gq.offU 14 rfl (by kernel_rfl) rfl rfl rfl rfl rfl rfl (fun _ _ _ h => h) ⟨hB24, hB31⟩ ?_
    refine Gq.off 15 rfl (by kernel_rfl) rfl rfl rfl rfl rfl rfl (fun _ _ _ h => h) ⟨hB24, hB31⟩ ?_
    refine Gq.st 16 rfl (by kernel_rfl) rfl .plain rfl (fun _ _ _ h => h) ⟨hB24, hB31⟩ (fun w' x => Still.pickT rfl rfl) ?_
    refine Gq.one 17 rfl (by kernel_rfl) ?_
    refine Sq.assign .plain rfl rfl ?_
    refine Sq.nil ?_
    refine Eq.goes (fun h => absurd h (by decide)) ?_
    refine Gq.done (by kernel_rfl) ?_
    refine Eq.next ?_
    refine Cq.ret ?_
    refine Eq.ret1 rfl rfl ?_
    exact ⟨rfl, E⟩
  refine Sq.notF (.met rfl rfl rfl) rfl rfl ?_
  refine Sq.pickF .plain rfl rfl rfl ?_
  refine Sq.nil ?_
  refine Eq.next ?_
  refine Cq.thn rfl ?_
  refine Cq.seq ?_
  refine Cq.region ?_
  refine Sq.move .plain rfl rfl ?_
  refine Sq.move .plain rfl rfl ?_
  refine Sq.eqlS .plain rfl rfl rfl ?_
  refine Sq.isT (rfl) ?_
  refine Sq.move .plain rfl rfl ?_
  refine Sq.move (.met rfl rfl rfl) rfl rfl ?_
  refine Sq.move (.met rfl rfl rfl) rfl rfl ?_
  refine Sq.eqlB und4 (.met rfl rfl rfl) rfl rfl rfl ?_
  refine Sq.beT (beq_self_eq_true _) ?_
  refine Sq.pickT .plain rfl rfl rfl ?_
  refine Sq.move .plain rfl rfl ?_
  refine Sq.move (.met rfl rfl rfl) rfl rfl ?_
  refine Sq.beF (dif_no hC) ?_
  refine Sq.notF (.met rfl rfl rfl) rfl rfl ?_
  refine Sq.pickT .plain rfl rfl rfl ?_
  refine Sq.move .plain rfl rfl ?_
  refine Sq.loadAgg agg26 (.met rfl rfl rfl) rfl rfl hB24 rfl ?_
  refine Sq.loadAgg agg26 (.met rfl rfl rfl) rfl rfl hB31 rfl ?_
  have hd99 := hB24.lt
  have hd100 := hB31.lt
  refine Sq.call fn40 (.met rfl rfl rfl) rfl rfl (same_c _ aX7 aY8 _ _ _ _ hnX11 haX12 hnY15 haY16) ?_
  rintro _ w97 ⟨rfl, e98⟩
  have hs101 := Below.size E
  have hs102 := Below.size e98
  replace E := E.trans e98
  refine Sq.beF (same_no hC) ?_
  refine Sq.notF (.met rfl rfl rfl) rfl rfl ?_
  refine Sq.pickT .plain rfl rfl rfl ?_
  refine Sq.assign .plain rfl rfl ?_
  refine Sq.nil ?_
  refine Eq.next ?_
  refine Cq.ret ?_
  refine Eq.pastRet ?_
  refine Eq.ret1 rfl rfl ?_
  exact ⟨rfl, E⟩
set_option maxRecDepth 100000 in
theorem lDifferLeast (w0 : World) (e : TypeId) (a0 : Option Addr) (c0 : Nat) (cs : List UInt8) (hc : Bytes w0 e (.slice a0 cs.length c0) cs) (hcap : cs.length ≤ c0) (e' : TypeId) (a0' : Option Addr) (c0' : Nat) (cs' : List UInt8) (hc' : Bytes w0 e' (.slice a0' cs'.length c0') cs') (hcap' : cs'.length ≤ c0') : Ret Try.prog 3 #[Value.slice a0 cs.length c0, Value.slice a0' cs'.length c0'] w0 (fun v w => v = .bool true ∧ Ext w0 w) := by
  have E := Ext.refl w0
  refine Ret.of (args := [Value.slice a0 cs.length c0, Value.slice a0' cs'.length c0']) Try.func3 rfl rfl rfl ?_
  rintro _ rfl
  show Cq _ _ _ _ [(0, Value.slice a0 cs.length c0), (1, Value.slice a0' cs'.length c0')] _
  refine Cq.seq ?_
  refine Cq.region ?_
  refine Sq.assign .plain rfl rfl ?_
  refine Sq.nil ?_
  refine Eq.next ?_
  refine Cq.seq ?_
  refine Cq.seq ?_
  refine Cq.region ?_
  refine Sq.move .plain rfl rfl ?_
  refine Sq.lenBytes (hc.ext E) .plain rfl und22 rfl ?_
  refine Sq.gtr .plain rfl rfl rfl ?_
  refine Sq.part (fun c1 => ?_) (fun c1 => ?_)
  · refine Sq.move .plain rfl rfl ?_
    refine Sq.off rfl rfl rfl rfl rfl rfl ?_
    refine Sq.off rfl rfl rfl rfl rfl rfl ?_
    refine Sq.off rfl rfl rfl rfl rfl rfl ?_
    refine Sq.pickT .plain rfl rfl rfl ?_
    refine Sq.nil ?_
    refine Eq.next ?_
    refine Cq.thn rfl ?_
    refine Cq.seq ?_
    refine Cq.region ?_
    refine Sq.assign .plain rfl rfl ?_
    refine Sq.nil ?_
    refine Eq.next ?_
    refine Cq.ret ?_
    refine Eq.pastRet ?_
    refine Eq.ret1 rfl rfl ?_
    exact ⟨rfl, E⟩
  refine Sq.move .plain rfl rfl ?_
  refine Sq.move (.met rfl rfl rfl) rfl rfl ?_
  refine Sq.lenBytes (hc'.ext E) (.met rfl rfl rfl) rfl und22 rfl ?_
  refine Sq.gtr (.met rfl rfl rfl) rfl rfl rfl ?_
  refine Sq.part (fun c2 => ?_) (fun c2 => ?_)
  · refine Sq.pickF .plain rfl rfl rfl ?_
    refine Sq.nil ?_
    refine Eq.next ?_
    refine Cq.thn rfl ?_
    refine Cq.seq ?_
    refine Cq.region ?_
    refine Sq.assign .plain rfl rfl ?_
    refine Sq.nil ?_
    refine Eq.next ?_
    refine Cq.ret ?_
    refine Eq.pastRet ?_
    refine Eq.ret1 rfl rfl ?_
    exact ⟨rfl, E⟩
  refine Sq.pickF .plain rfl rfl rfl ?_
  refine Sq.nil ?_
  refine Eq.next ?_
  refine Cq.els rfl ?_
  refine Cq.skip ?_
  refine Eq.next ?_
  refine Cq.seq ?_
  refine Cq.region ?_
  refine Sq.move .plain rfl rfl ?_
  refine Sq.call fn15 .plain rfl rfl (drawDif_c _ _ _ _ _ (hc.ext E) hcap) ?_
  rintro v3 w4 ⟨⟨u6, v7, aX8, aY9, rfl, ⟨nxX10, acX11, rfl, hnX12, haX13⟩, ⟨nxY14, acY15, rfl, hnY16, haY17⟩, hsmX18, hsmY19⟩, e5⟩
  have hs20 := Below.size E
  have hs21 := Below.size e5
  replace E := E.trans e5
  refine Sq.move .plain rfl rfl ?_
  refine Sq.extract .plain rfl rfl rfl ?_
  refine Sq.extract .plain rfl rfl rfl ?_
  refine Sq.alloc zero26 .plain rfl (fun b22 w23 e24 hB25 hlo26 => ?_)
  have hd27 := Nat.le_trans (Below.size E) hlo26
  have hs28 := Below.size e24
  replace E := E.trans e24
  replace hnX12 := hnX12.ext e24
  replace haX13 := haX13.ext e24
  replace hnY16 := hnY16.ext e24
  replace haY17 := haY17.ext e24
  refine Sq.alloc zero26 .plain rfl (fun b29 w30 e31 hB32 hlo33 => ?_)
  have hd34 := Nat.le_trans (Below.size E) hlo33
  have hd35 := Nat.lt_of_lt_of_le hB25.lt hlo33
  have hs36 := Below.size e31
  replace E := E.trans e31
  replace hnX12 := hnX12.ext e31
  replace haX13 := haX13.ext e31
  replace hnY16 := hnY16.ext e31
  replace haY17 := haY17.ext e31
  replace hB25 := hB25.ext e31
  refine Sq.storeAgg agg26 .plain rfl rfl (one_cons rfl (one_cons (Rows.one hnX12) (one_cons (Row.one haX13) one_nil))) hB25 rfl rfl (fun w37 g38 hB39 => ?_)
  have hs40 := World.grownBy.size g38
  replace E := E.grown g38 (fun k hk => by injection hk with hk; subst hk; omega)
  replace hnX12 := hnX12.stored g38 hB25 (by decide) (by decide)
  replace haX13 := haX13.stored g38 hB25 (by decide)
  replace hnY16 := hnY16.stored g38 hB25 (by decide) (by decide)
  replace haY17 := haY17.stored g38 hB25 (by decide)
  replace hB32 := hB32.grown g38 (by intro h; injection h with h; omega)
  replace hB25 := hB39
  refine Sq.storeAgg agg26 .plain rfl rfl (one_cons rfl (one_cons (Rows.one hnY16) (one_cons (Row.one haY17) one_nil))) hB32 rfl rfl (fun w41 g42 hB43 => ?_)
  have hs44 := World.grownBy.size g42
  replace E := E.grown g42 (fun k hk => by injection hk with hk; subst hk; omega)
  replace hnX12 := hnX12.stored g42 hB32 (by decide) (by decide)
  replace haX13 := haX13.stored g42 hB32 (by decide)
  replace hnY16 := hnY16.stored g42 hB32 (by decide) (by decide)
  replace haY17 := haY17.stored g42 hB32 (by decide)
  replace hB25 := hB25.grown g42 (by intro h; injection h with h; omega)
  replace hB32 := hB43
  refine Sq.nil ?_
  refine Eq.next ?_
  refine Cq.seq ?_
  refine Cq.region ?_
  refine Sq.loadAgg agg26 .plain rfl rfl hB25 rfl ?_
  refine Sq.loadAgg agg26 .plain rfl rfl hB32 rfl ?_
  have hd48 := hB25.lt
  have hd49 := hB32.lt
  refine Sq.call fn16 .plain rfl rfl (fDif_c _ aX8 aY9 _ _ _ _ hnX12 haX13 hnY16 haY17) ?_
  rintro _ w46 ⟨rfl, e47⟩
  have hs50 := Below.size E
  have hs51 := Below.size e47
  replace E := E.trans e47
  replace hnX12 := hnX12.ext e47
  replace haX13 := haX13.ext e47
  replace hnY16 := hnY16.ext e47
  replace haY17 := haY17.ext e47
  replace hB25 := hB25.ext e47
  replace hB32 := hB32.ext e47
  refine Sq.move .plain rfl rfl ?_
  refine Sq.extract .plain rfl rfl rfl ?_
  refine Sq.extract .plain rfl rfl rfl ?_
  refine Sq.assign .plain rfl rfl ?_
  refine Sq.assign .plain rfl rfl ?_
  refine Sq.nil ?_
  refine Eq.next ?_
  refine Cq.seq ?_
  refine Cq.region ?_
  refine Sq.loadAgg agg26 .plain rfl rfl hB25 rfl ?_
  refine Sq.loadAgg agg26 .plain rfl rfl hB32 rfl ?_
  have hd55 := hB25.lt
  have hd56 := hB32.lt
  refine Sq.call fn17 .plain rfl rfl (sfDif_c _ aX8 aY9 _ _ _ _ hnX12 haX13 hnY16 haY17) ?_
  rintro _ w53 ⟨rfl, e54⟩
  have hs57 := Below.size E
  have hs58 := Below.size e54
  replace E := E.trans e54
  replace hnX12 := hnX12.ext e54
  replace haX13 := haX13.ext e54
  replace hnY16 := hnY16.ext e54
  replace haY17 := haY17.ext e54
  replace hB25 := hB25.ext e54
  replace hB32 := hB32.ext e54
  refine Sq.move .plain rfl rfl ?_
  refine Sq.extract .plain rfl rfl rfl ?_
  refine Sq.extract .plain rfl rfl rfl ?_
  refine Sq.assign .plain rfl rfl ?_
  refine Sq.assign .plain rfl rfl ?_
  refine Sq.nil ?_
  refine Eq.next ?_
  refine Cq.seq ?_
  refine Cq.region ?_
  refine Sq.move .plain rfl rfl ?_
  have hd71 := hB25.lt
  have hd72 := hB32.lt
  refine Sq.call fn18 .plain rfl rfl (drawAfter_c _ _ _ _ _ (hc'.ext E) hcap') ?_
  rintro _ w60 ⟨⟨u62, s63, a64, rfl, ⟨nx65, ac66, rfl, hn67, ha68⟩, hsm69, hsz70⟩, e61⟩
  have hs73 := Below.size E
  have hs74 := Below.size e61
  replace E := E.trans e61
  replace hnX12 := hnX12.ext e61
  replace haX13 := haX13.ext e61
  replace hnY16 := hnY16.ext e61
  replace haY17 := haY17.ext e61
  replace hB25 := hB25.ext e61
  replace hB32 := hB32.ext e61
  refine Sq.move .plain rfl rfl ?_
  refine Sq.extract .plain rfl rfl rfl ?_
  refine Sq.extract .plain rfl rfl rfl ?_
  refine Sq.alloc zero26 .plain rfl (fun b75 w76 e77 hB78 hlo79 => ?_)
  have hd80 := Nat.le_trans (Below.size E) hlo79
  have hd81 := Nat.lt_of_lt_of_le hB25.lt hlo79
  have hd82 := Nat.lt_of_lt_of_le hB32.lt hlo79
  have hs83 := Below.size e77
  replace E := E.trans e77
  replace hnX12 := hnX12.ext e77
  replace haX13 := haX13.ext e77
  replace hnY16 := hnY16.ext e77
  replace haY17 := haY17.ext e77
  replace hB25 := hB25.ext e77
  replace hB32 := hB32.ext e77
  replace hn67 := hn67.ext e77
  replace ha68 := ha68.ext e77
  refine Sq.storeAgg agg26 .plain rfl rfl (one_cons rfl (one_cons (Rows.one hn67) (one_cons (Row.one ha68) one_nil))) hB78 rfl rfl (fun w84 g85 hB86 => ?_)
  have hs87 := World.grownBy.size g85
  replace E := E.grown g85 (fun k hk => by injection hk with hk; subst hk; omega)
  replace hnX12 := hnX12.stored g85 hB78 (by decide) (by decide)
  replace haX13 := haX13.stored g85 hB78 (by decide)
  replace hnY16 := hnY16.stored g85 hB78 (by decide) (by decide)
  replace haY17 := haY17.stored g85 hB78 (by decide)
  replace hB25 := hB25.grown g85 (by intro h; injection h with h; omega)
  replace hB32 := hB32.grown g85 (by intro h; injection h with h; omega)
  replace hB78 := hB86
  refine Sq.assign .plain rfl rfl ?_
  refine Sq.nil ?_
  refine Eq.next ?_
  refine Cq.seq ?_
  refine Cq.seq ?_
  refine Cq.region ?_
  refine Sq.move .plain rfl rfl ?_
  refine Sq.move .plain rfl rfl ?_
  refine Sq.neqS .plain rfl rfl rfl ?_
  refine Sq.isF (fun h => h rfl) ?_
  refine Sq.move .plain rfl rfl ?_
  refine Sq.move (.met rfl rfl rfl) rfl rfl ?_
  refine Sq.move (.met rfl rfl rfl) rfl rfl ?_
  refine Sq.neqB und4 (.met rfl rfl rfl) rfl rfl rfl ?_
  refine Sq.beF (by simp) ?_
  refine Sq.pickF .plain rfl rfl rfl ?_
  refine Sq.move .plain rfl rfl ?_
  refine Sq.loadAgg agg26 (.met rfl rfl rfl) rfl rfl hB25 rfl ?_
  refine Sq.loadAgg agg26 (.met rfl rfl rfl) rfl rfl hB32 rfl ?_
  have hd91 := hB25.lt
  have hd92 := hB32.lt
  have hd93 := hB78.lt
  refine Sq.call fn19 (.met rfl rfl rfl) rfl rfl (agTwo_c _ aX8 aY9 _ _ _ _ hnX12 haX13 hnY16 haY17) ?_
  rintro _ w89 ⟨rfl, e90⟩
  have hs94 := Below.size E
  have hs95 := Below.size e90
  replace E := E.trans e90
  replace hnX12 := hnX12.ext e90
  replace haX13 := haX13.ext e90
  replace hnY16 := hnY16.ext e90
  replace haY17 := haY17.ext e90
  replace hB25 := hB25.ext e90
  replace hB32 := hB32.ext e90
  replace hB78 := hB78.ext e90
  refine Sq.partB (fun hC => ?_) (fun hC => ?_)
  · refine Sq.notT (.met rfl rfl rfl) rfl rfl ?_
    refine Sq.pickF .plain rfl rfl rfl ?_
    refine Sq.move .plain rfl rfl ?_
    refine Sq.move (.met rfl rfl rfl) rfl rfl ?_
    refine Sq.fieldAddr fld26_0 (.met rfl rfl rfl) rfl rfl ?_
    refine Sq.loadB one3 (.met rfl rfl rfl) rfl rfl hB25 rfl ?_
    refine Sq.call fn20 (.met rfl rfl rfl) rfl rfl (within_c s63 aX8.al _) ?_
    rintro _ _ ⟨rfl, rfl⟩
    refine Sq.partB (fun hw => ?_) (fun hw => ?_)
    · refine Sq.notT (.met rfl rfl rfl) rfl rfl ?_
      refine Sq.pickF .plain rfl rfl rfl ?_
      refine Sq.nil ?_
      refine Eq.next ?_
      refine Cq.els rfl ?_
      refine Cq.skip ?_
      refine Eq.next ?_
      refine Cq.seq ?_
      refine Cq.drawS 16 (fun w' => Blk w' b22 26 [Value.int .i64 aX8.al, nxX10, acX11] ∧ Blk w' b29 26 [Value.int .i64 aY9.al, nxY14, acY15]) mixed (⟨hB25, hB32⟩) (fun w96 e97 hS => ?_)
      clear hS
      have hs98 := Below.size e97
      replace E := E.trans e97
      replace hnX12 := hnX12.ext e97
      replace haX13 := haX13.ext e97
      replace hnY16 := hnY16.ext e97
      replace haY17 := haY17.ext e97
      replace hB25 := hB25.ext e97
      replace hB32 := hB32.ext e97
      replace hB78 := hB78.ext e97
      refine Gq.st 0 rfl (by kernel_rfl) rfl .plain rfl (fun _ _ _ h => h) ⟨hB25, hB32⟩ (fun w' x => Still.loadAgg agg26 rfl x.1 rfl) ?_
      refine Gq.st 1 rfl (by kernel_rfl) rfl .plain rfl (fun _ _ _ h => h) ⟨hB25, hB32⟩ (fun w' x => Still.move rfl) ?_
      refine Gq.st 3 rfl (by kernel_rfl) rfl .plain rfl (fun _ _ _ h => h) ⟨hB25, hB32⟩ (fun w' x => Still.loadAgg agg26 rfl x.2 rfl) ?_
      refine Gq.st 4 rfl (by kernel_rfl) rfl .plain rfl (fun _ _ _ h => h) ⟨hB25, hB32⟩ (fun w' x => Still.move rfl) ?_
      refine Gq.one 2 rfl (by kernel_rfl) ?_
      have hd102 := hB25.lt
      have hd103 := hB32.lt
      have hd104 := hB78.lt
      refine Sq.call fn21 .plain rfl rfl (accepts_c _ aX8 _ _ hnX12 haX13 s63 (by first | omega | exact Nat.le_trans dif_size (by decide) | exact Nat.le_trans (size_cut _) (Nat.le_trans dif_size (by decide)))) ?_
      rintro _ w100 ⟨rfl, e101⟩
      have hs105 := Below.size E
      have hs106 := Below.size e101
      replace E := E.trans e101
      replace hnY16 := hnY16.ext e101
      replace haY17 := haY17.ext e101
      replace hB25 := hB25.ext e101
      replace hB32 := hB32.ext e101
      replace hB78 := hB78.ext e101
      refine Sq.nil ?_
      refine Eq.goes (fun _ => ⟨hB25, hB32⟩) ?_
      refine Gq.one 5 rfl (by kernel_rfl) ?_
      have hd110 := hB25.lt
      have hd111 := hB32.lt
      have hd112 := hB78.lt
      refine Sq.call fn21 .plain rfl rfl (accepts_c _ aY9 _ _ hnY16 haY17 s63 (by first | omega | exact Nat.le_trans dif_size (by decide) | exact Nat.le_trans (size_cut _) (Nat.le_trans dif_size (by decide)))) ?_
      rintro _ w108 ⟨rfl, e109⟩
      have hs113 := Below.size E
      have hs114 := Below.size e109
      replace E := E.trans e109
      replace hB25 := hB25.ext e109
      replace hB32 := hB32.ext e109
      replace hB78 := hB78.ext e109
      refine Sq.nil ?_
      refine Eq.goes (fun _ => ⟨hB25, hB32⟩) ?_
      refine Gq.st 6 rfl (by kernel_rfl) rfl .plain rfl (fun _ _ _ h => h) ⟨hB25, hB32⟩ (fun w' x => Still.eqlB und4 rfl rfl) ?_
      refine Gq.partB (fun he => ?_) (fun he => ?_)
      · refine Gq.st 7 rfl (by kernel_rfl) rfl .plain rfl (fun _ _ _ h => h) ⟨hB25, hB32⟩ (fun w' x => Still.move rfl) ?_
        refine Gq.off 8 rfl (by kernel_rfl) rfl rfl rfl rfl rfl rfl (fun _ _ _ h => h) ⟨hB25, hB32⟩ ?_
        refine Gq.off 9 rfl (by kernel_rfl) rfl rfl rfl rfl rfl rfl (fun _ _ _ h => h) ⟨hB25, hB32⟩ ?_
        refine Gq.offU 10 rfl (by kernel_rfl) rfl rfl rfl rfl rfl rfl (fun _ _ _ h => h) ⟨hB25, hB32⟩ ?_
        refine Gq.offU 11 rfl (by kernel_rfl) rfl rfl rfl rfl rfl rfl (fun _ _ _ h => h) ⟨hB25, hB32⟩ ?_
        refine Gq.offU 12 rfl (by kernel_rfl) rfl rfl rfl rfl rfl rfl (fun _ _ _ h => h) ⟨hB25, hB32⟩ ?_
        refine Gq.offU 13 rfl (by kernel_rfl) rfl rfl rfl rfl rfl rfl (fun _ _ _ h => h) ⟨hB25, hB32⟩ ?_
        refine Gq.off 14 rfl (by kernel_rfl) rfl rfl rfl rfl rfl rfl (fun _ _ _ h => h) ⟨hB25, hB32⟩ ?_
        refine Gq.st 15 rfl (by kernel_rfl) rfl .plain rfl (fun _ _ _ h => h) ⟨hB25, hB32⟩ (fun w' x => Still.pickT rfl rfl) ?_
        refine Gq.one 16 rfl (by kernel_rfl) ?_
        refine Sq.assign .plain rfl rfl ?_
        refine Sq.nil ?_
        refine Eq.goes (fun h => absurd h (by decide)) ?_
        refine Gq.done (by kernel_rfl) ?_
        refine Eq.next ?_
        refine Cq.ret ?_
        refine Eq.ret1 rfl rfl ?_
        exact ⟨rfl, E⟩
      refine Gq.st 7 rfl (by kernel_rfl) rfl .plain rfl (fun _ _ _ h => h) ⟨hB25, hB32⟩ (fun w' x => Still.move rfl) ?_
      refine Gq.st 8 rfl (by kernel_rfl) rfl (.met rfl rfl rfl) rfl (fun _ _ _ h => h) ⟨hB25, hB32⟩ (fun w' x => Still.move rfl) ?_
      refine Gq.beT (((dif_least hC hw).resolve_left (fun hc => by rw [hc] at he; simp at he)).1) ?_
      refine Gq.st 9 rfl (by kernel_rfl) rfl (.met rfl rfl rfl) rfl (fun _ _ _ h => h) ⟨hB25, hB32⟩ (fun w' x => Still.move rfl) ?_
      refine Gq.st 10 rfl (by kernel_rfl) rfl (.met rfl rfl rfl) rfl (fun _ _ _ h => h) ⟨hB25, hB32⟩ (fun w' x => Still.move rfl) ?_
      refine Gq.st 11 rfl (by kernel_rfl) rfl (.met rfl rfl rfl) rfl (fun _ _ _ h => h) ⟨hB25, hB32⟩ (fun w' x => Still.move rfl) ?_
      refine Gq.one 12 rfl (by kernel_rfl) ?_
      have hd118 := hB25.lt
      have hd119 := hB32.lt
      have hd120 := hB78.lt
      refine Sq.call fn22 (.met rfl rfl rfl) rfl rfl (before_c s63 ((txt ((fDif aX8 aY9).getD []))) _) ?_
      rintro _ w116 ⟨rfl, e117⟩
      have hs121 := Below.size E
      have hs122 := Below.size e117
      replace E := E.trans e117
      replace hB25 := hB25.ext e117
      replace hB32 := hB32.ext e117
      refine Sq.beF (((dif_least hC hw).resolve_left (fun hc => by rw [hc] at he; simp at he)).2) ?_
      refine Sq.nil ?_
      refine Eq.goes (fun _ => ⟨hB25, hB32⟩) ?_
      refine Gq.st 13 rfl (by kernel_rfl) rfl (.met rfl rfl rfl) rfl (fun _ _ _ h => h) ⟨hB25, hB32⟩ (fun w' x => Still.notF rfl) ?_
      refine Gq.st 14 rfl (by kernel_rfl) rfl (.met rfl rfl rfl) rfl (fun _ _ _ h => h) ⟨hB25, hB32⟩ (fun w' x => Still.pickT rfl rfl) ?_
      refine Gq.st 15 rfl (by kernel_rfl) rfl .plain rfl (fun _ _ _ h => h) ⟨hB25, hB32⟩ (fun w' x => Still.pickF rfl rfl) ?_
      refine Gq.one 16 rfl (by kernel_rfl) ?_
      refine Sq.assign .plain rfl rfl ?_
      refine Sq.nil ?_
      refine Eq.goes (fun h => absurd h (by decide)) ?_
      refine Gq.done (by kernel_rfl) ?_
      refine Eq.next ?_
      refine Cq.ret ?_
      refine Eq.ret1 rfl rfl ?_
      exact ⟨rfl, E⟩
    refine Sq.notF (.met rfl rfl rfl) rfl rfl ?_
    refine Sq.pickF .plain rfl rfl rfl ?_
    refine Sq.nil ?_
    refine Eq.next ?_
    refine Cq.thn rfl ?_
    refine Cq.seq ?_
    refine Cq.region ?_
    refine Sq.move .plain rfl rfl ?_
    refine Sq.move .plain rfl rfl ?_
    refine Sq.eqlS .plain rfl rfl rfl ?_
    refine Sq.isT (rfl) ?_
    refine Sq.move .plain rfl rfl ?_
    refine Sq.move (.met rfl rfl rfl) rfl rfl ?_
    refine Sq.move (.met rfl rfl rfl) rfl rfl ?_
    refine Sq.eqlB und4 (.met rfl rfl rfl) rfl rfl rfl ?_
    refine Sq.beT (beq_self_eq_true _) ?_
    refine Sq.pickT .plain rfl rfl rfl ?_
    refine Sq.assign .plain rfl rfl ?_
    refine Sq.nil ?_
    refine Eq.next ?_
    refine Cq.ret ?_
    refine Eq.pastRet ?_
    refine Eq.ret1 rfl rfl ?_
    exact ⟨rfl, E⟩
  refine Sq.notF (.met rfl rfl rfl) rfl rfl ?_
  refine Sq.pickF .plain rfl rfl rfl ?_
  refine Sq.move .plain rfl rfl ?_
  refine Sq.off rfl rfl rfl rfl rfl rfl ?_
  refine Sq.off rfl rfl rfl rfl rfl rfl ?_
  refine Sq.off rfl rfl rfl rfl rfl rfl ?_
  refine Sq.off rfl rfl rfl rfl rfl rfl ?_
  refine Sq.off rfl rfl rfl rfl rfl rfl ?_
  refine Sq.pickT .plain rfl rfl rfl ?_
  refine Sq.nil ?_
  refine Eq.next ?_
  refine Cq.thn rfl ?_
  refine Cq.seq ?_
  refine Cq.region ?_
  refine Sq.move .plain rfl rfl ?_
  refine Sq.move .plain rfl rfl ?_
  refine Sq.eqlS .plain rfl rfl rfl ?_
  refine Sq.isT (rfl) ?_
  refine Sq.move .plain rfl rfl ?_
  refine Sq.move (.met rfl rfl rfl) rfl rfl ?_
  refine Sq.move (.met rfl rfl rfl) rfl rfl ?_
  refine Sq.eqlB und4 (.met rfl rfl rfl) rfl rfl rfl ?_
  refine Sq.beT (beq_self_eq_true _) ?_
  refine Sq.pickT .plain rfl rfl rfl ?_
  refine Sq.assign .plain rfl rfl ?_
  refine Sq.nil ?_
  refine Eq.next ?_
  refine Cq.ret ?_
  refine Eq.pastRet ?_
  refine Eq.ret1 rfl rfl ?_
  exact ⟨rfl, E⟩
set_option maxRecDepth 100000 in
theorem lDifferShort (w0 : World) (e : TypeId) (a0 : Option Addr) (c0 : Nat) (cs : List UInt8) (hc : Bytes w0 e (.slice a0 cs.length c0) cs) (hcap : cs.length ≤ c0) : Ret Try.prog 7 #[Value.slice a0 cs.length c0] w0 (fun v w => v = .bool true ∧ Ext w0 w) := by
  have E := Ext.refl w0
  refine Ret.of (args := [Value.slice a0 cs.length c0]) Try.func7 rfl rfl rfl ?_
  rintro _ rfl
  show Cq _ _ _ _ [(0, Value.slice a0 cs.length c0)] _
  refine Cq.seq ?_
  refine Cq.region ?_
  refine Sq.assign .plain rfl rfl ?_
  refine Sq.nil ?_
  refine Eq.next ?_
  refine Cq.seq ?_
  refine Cq.seq ?_
  refine Cq.region ?_
  refine Sq.move .plain rfl rfl ?_
  refine Sq.lenBytes (hc.ext E) .plain rfl und22 rfl ?_
  refine Sq.gtr .plain rfl rfl rfl ?_
  refine Sq.part (fun c1 => ?_) (fun c1 => ?_)
  · refine Sq.nil ?_
    refine Eq.next ?_
    refine Cq.thn rfl ?_
    refine Cq.seq ?_
    refine Cq.region ?_
    refine Sq.assign .plain rfl rfl ?_
    refine Sq.nil ?_
    refine Eq.next ?_
    refine Cq.ret ?_
    refine Eq.pastRet ?_
    refine Eq.ret1 rfl rfl ?_
    exact ⟨rfl, E⟩
  refine Sq.nil ?_
  refine Eq.next ?_
  refine Cq.els rfl ?_
  refine Cq.skip ?_
  refine Eq.next ?_
  refine Cq.seq ?_
  refine Cq.region ?_
  refine Sq.move .plain rfl rfl ?_
  refine Sq.call fn15 .plain rfl rfl (drawDif_c _ _ _ _ _ (hc.ext E) hcap) ?_
  rintro v2 w3 ⟨⟨u5, v6, aX7, aY8, rfl, ⟨nxX9, acX10, rfl, hnX11, haX12⟩, ⟨nxY13, acY14, rfl, hnY15, haY16⟩, hsmX17, hsmY18⟩, e4⟩
  have hs19 := Below.size E
  have hs20 := Below.size e4
  replace E := E.trans e4
  refine Sq.move .plain rfl rfl ?_
  refine Sq.extract .plain rfl rfl rfl ?_
  refine Sq.extract .plain rfl rfl rfl ?_
  refine Sq.alloc zero26 .plain rfl (fun b21 w22 e23 hB24 hlo25 => ?_)
  have hd26 := Nat.le_trans (Below.size E) hlo25
  have hs27 := Below.size e23
  replace E := E.trans e23
  replace hnX11 := hnX11.ext e23
  replace haX12 := haX12.ext e23
  replace hnY15 := hnY15.ext e23
  replace haY16 := haY16.ext e23
  refine Sq.alloc zero26 .plain rfl (fun b28 w29 e30 hB31 hlo32 => ?_)
  have hd33 := Nat.le_trans (Below.size E) hlo32
  have hd34 := Nat.lt_of_lt_of_le hB24.lt hlo32
  have hs35 := Below.size e30
  replace E := E.trans e30
  replace hnX11 := hnX11.ext e30
  replace haX12 := haX12.ext e30
  replace hnY15 := hnY15.ext e30
  replace haY16 := haY16.ext e30
  replace hB24 := hB24.ext e30
  refine Sq.storeAgg agg26 .plain rfl rfl (one_cons rfl (one_cons (Rows.one hnX11) (one_cons (Row.one haX12) one_nil))) hB24 rfl rfl (fun w36 g37 hB38 => ?_)
  have hs39 := World.grownBy.size g37
  replace E := E.grown g37 (fun k hk => by injection hk with hk; subst hk; omega)
  replace hnX11 := hnX11.stored g37 hB24 (by decide) (by decide)
  replace haX12 := haX12.stored g37 hB24 (by decide)
  replace hnY15 := hnY15.stored g37 hB24 (by decide) (by decide)
  replace haY16 := haY16.stored g37 hB24 (by decide)
  replace hB31 := hB31.grown g37 (by intro h; injection h with h; omega)
  replace hB24 := hB38
  refine Sq.storeAgg agg26 .plain rfl rfl (one_cons rfl (one_cons (Rows.one hnY15) (one_cons (Row.one haY16) one_nil))) hB31 rfl rfl (fun w40 g41 hB42 => ?_)
  have hs43 := World.grownBy.size g41
  replace E := E.grown g41 (fun k hk => by injection hk with hk; subst hk; omega)
  replace hnX11 := hnX11.stored g41 hB31 (by decide) (by decide)
  replace haX12 := haX12.stored g41 hB31 (by decide)
  replace hnY15 := hnY15.stored g41 hB31 (by decide) (by decide)
  replace haY16 := haY16.stored g41 hB31 (by decide)
  replace hB24 := hB24.grown g41 (by intro h; injection h with h; omega)
  replace hB31 := hB42
  refine Sq.nil ?_
  refine Eq.next ?_
  refine Cq.seq ?_
  refine Cq.region ?_
  refine Sq.loadAgg agg26 .plain rfl rfl hB24 rfl ?_
  refine Sq.loadAgg agg26 .plain rfl rfl hB31 rfl ?_
  have hd47 := hB24.lt
  have hd48 := hB31.lt
  refine Sq.call fn16 .plain rfl rfl (fDif_c _ aX7 aY8 _ _ _ _ hnX11 haX12 hnY15 haY16) ?_
  rintro _ w45 ⟨rfl, e46⟩
  have hs49 := Below.size E
  have hs50 := Below.size e46
  replace E := E.trans e46
  replace hnX11 := hnX11.ext e46
  replace haX12 := haX12.ext e46
  replace hnY15 := hnY15.ext e46
  replace haY16 := haY16.ext e46
  replace hB24 := hB24.ext e46
  replace hB31 := hB31.ext e46
  refine Sq.move .plain rfl rfl ?_
  refine Sq.extract .plain rfl rfl rfl ?_
  refine Sq.extract .plain rfl rfl rfl ?_
  refine Sq.assign .plain rfl rfl ?_
  refine Sq.assign .plain rfl rfl ?_
  refine Sq.nil ?_
  refine Eq.next ?_
  refine Cq.seq ?_
  refine Cq.region ?_
  refine Sq.loadAgg agg26 .plain rfl rfl hB24 rfl ?_
  refine Sq.loadAgg agg26 .plain rfl rfl hB31 rfl ?_
  have hd54 := hB24.lt
  have hd55 := hB31.lt
  refine Sq.call fn17 .plain rfl rfl (sfDif_c _ aX7 aY8 _ _ _ _ hnX11 haX12 hnY15 haY16) ?_
  rintro _ w52 ⟨rfl, e53⟩
  have hs56 := Below.size E
  have hs57 := Below.size e53
  replace E := E.trans e53
  replace hnX11 := hnX11.ext e53
  replace hnY15 := hnY15.ext e53
  replace hB24 := hB24.ext e53
  replace hB31 := hB31.ext e53
  refine Sq.move .plain rfl rfl ?_
  refine Sq.extract .plain rfl rfl rfl ?_
  refine Sq.extract .plain rfl rfl rfl ?_
  refine Sq.assign .plain rfl rfl ?_
  refine Sq.assign .plain rfl rfl ?_
  refine Sq.nil ?_
  refine Eq.next ?_
  refine Cq.seq ?_
  refine Cq.seq ?_
  refine Cq.region ?_
  refine Sq.move .plain rfl rfl ?_
  refine Sq.move .plain rfl rfl ?_
  refine Sq.neqS .plain rfl rfl rfl ?_
  refine Sq.isF (fun h => h rfl) ?_
  refine Sq.move .plain rfl rfl ?_
  refine Sq.move (.met rfl rfl rfl) rfl rfl ?_
  refine Sq.move (.met rfl rfl rfl) rfl rfl ?_
  refine Sq.neqB und4 (.met rfl rfl rfl) rfl rfl rfl ?_
  refine Sq.beF (by simp) ?_
  refine Sq.pickF .plain rfl rfl rfl ?_
  refine Sq.move .plain rfl rfl ?_
  refine Sq.move (.met rfl rfl rfl) rfl rfl ?_
  refine Sq.partB (fun hd => ?_) (fun hd => ?_)
  · refine Sq.notT (.met rfl rfl rfl) rfl rfl ?_
    refine Sq.pickF .plain rfl rfl rfl ?_
    refine Sq.nil ?_
    refine Eq.next ?_
    refine Cq.els rfl ?_
    refine Cq.skip ?_
    refine Eq.next ?_
    refine Cq.seq ?_
    refine Cq.region ?_
    have hz0 := @dif_size aX7 aY8
    have hz1 := (hsmX17).2.1
    have hz2 := (hsmY18).2.1
    refine Sq.move .plain rfl rfl ?_
    refine Sq.lenStr .plain rfl und9 rfl ?_
    refine Sq.add .plain rfl rfl rfl (by omega) ?_
    refine Sq.fieldAddr fld26_1 .plain rfl rfl ?_
    refine Sq.loadB one23 .plain rfl rfl hB24 rfl ?_
    refine Sq.lenRows hnX11 .plain rfl und23 rfl ?_
    refine Sq.fieldAddr fld26_1 .plain rfl rfl ?_
    refine Sq.loadB one23 .plain rfl rfl hB31 rfl ?_
    refine Sq.lenRows hnY15 .plain rfl und23 rfl ?_
    refine Sq.add .plain rfl rfl rfl (by omega) ?_
    refine Sq.lss .plain rfl rfl rfl ?_
    refine Sq.isT (dif_shortI hd) ?_
    refine Sq.assign .plain rfl rfl ?_
    refine Sq.nil ?_
    refine Eq.next ?_
    refine Cq.ret ?_
    refine Eq.ret1 rfl rfl ?_
    exact ⟨rfl, E⟩
  refine Sq.notF (.met rfl rfl rfl) rfl rfl ?_
  refine Sq.pickF .plain rfl rfl rfl ?_
  refine Sq.nil ?_
  refine Eq.next ?_
  refine Cq.thn rfl ?_
  refine Cq.seq ?_
  refine Cq.region ?_
  refine Sq.move .plain rfl rfl ?_
  refine Sq.move .plain rfl rfl ?_
  refine Sq.eqlS .plain rfl rfl rfl ?_
  refine Sq.isT (rfl) ?_
  refine Sq.move .plain rfl rfl ?_
  refine Sq.move (.met rfl rfl rfl) rfl rfl ?_
  refine Sq.beF (hd) ?_
  refine Sq.move (.met rfl rfl rfl) rfl rfl ?_
  refine Sq.beF (hd) ?_
  refine Sq.eqlB und4 (.met rfl rfl rfl) rfl rfl rfl ?_
  refine Sq.pickT .plain rfl rfl rfl ?_
  refine Sq.assign .plain rfl rfl ?_
  refine Sq.nil ?_
  refine Eq.next ?_
  refine Cq.ret ?_
  refine Eq.pastRet ?_
  refine Eq.ret1 rfl rfl ?_
  exact ⟨rfl, E⟩
set_option maxRecDepth 100000 in
theorem lDifferTurned (w0 : World) (e : TypeId) (a0 : Option Addr) (c0 : Nat) (cs : List UInt8) (hc : Bytes w0 e (.slice a0 cs.length c0) cs) (hcap : cs.length ≤ c0) : Ret Try.prog 12 #[Value.slice a0 cs.length c0] w0 (fun v w => v = .bool true ∧ Ext w0 w) := by
  have E := Ext.refl w0
  refine Ret.of (args := [Value.slice a0 cs.length c0]) Try.func12 rfl rfl rfl ?_
  rintro _ rfl
  show Cq _ _ _ _ [(0, Value.slice a0 cs.length c0)] _
  refine Cq.seq ?_
  refine Cq.region ?_
  refine Sq.assign .plain rfl rfl ?_
  refine Sq.nil ?_
  refine Eq.next ?_
  refine Cq.seq ?_
  refine Cq.seq ?_
  refine Cq.region ?_
  refine Sq.move .plain rfl rfl ?_
  refine Sq.lenBytes (hc.ext E) .plain rfl und22 rfl ?_
  refine Sq.gtr .plain rfl rfl rfl ?_
  refine Sq.part (fun c1 => ?_) (fun c1 => ?_)
  · refine Sq.nil ?_
    refine Eq.next ?_
    refine Cq.thn rfl ?_
    refine Cq.seq ?_
    refine Cq.region ?_
    refine Sq.assign .plain rfl rfl ?_
    refine Sq.nil ?_
    refine Eq.next ?_
    refine Cq.ret ?_
    refine Eq.pastRet ?_
    refine Eq.ret1 rfl rfl ?_
    exact ⟨rfl, E⟩
  refine Sq.nil ?_
  refine Eq.next ?_
  refine Cq.els rfl ?_
  refine Cq.skip ?_
  refine Eq.next ?_
  refine Cq.seq ?_
  refine Cq.region ?_
  refine Sq.move .plain rfl rfl ?_
  refine Sq.call fn15 .plain rfl rfl (drawDif_c _ _ _ _ _ (hc.ext E) hcap) ?_
  rintro v2 w3 ⟨⟨u5, v6, aX7, aY8, rfl, ⟨nxX9, acX10, rfl, hnX11, haX12⟩, ⟨nxY13, acY14, rfl, hnY15, haY16⟩, hsmX17, hsmY18⟩, e4⟩
  have hs19 := Below.size E
  have hs20 := Below.size e4
  replace E := E.trans e4
  refine Sq.move .plain rfl rfl ?_
  refine Sq.extract .plain rfl rfl rfl ?_
  refine Sq.extract .plain rfl rfl rfl ?_
  refine Sq.alloc zero26 .plain rfl (fun b21 w22 e23 hB24 hlo25 => ?_)
  have hd26 := Nat.le_trans (Below.size E) hlo25
  have hs27 := Below.size e23
  replace E := E.trans e23
  replace hnX11 := hnX11.ext e23
  replace haX12 := haX12.ext e23
  replace hnY15 := hnY15.ext e23
  replace haY16 := haY16.ext e23
  refine Sq.alloc zero26 .plain rfl (fun b28 w29 e30 hB31 hlo32 => ?_)
  have hd33 := Nat.le_trans (Below.size E) hlo32
  have hd34 := Nat.lt_of_lt_of_le hB24.lt hlo32
  have hs35 := Below.size e30
  replace E := E.trans e30
  replace hnX11 := hnX11.ext e30
  replace haX12 := haX12.ext e30
  replace hnY15 := hnY15.ext e30
  replace haY16 := haY16.ext e30
  replace hB24 := hB24.ext e30
  refine Sq.storeAgg agg26 .plain rfl rfl (one_cons rfl (one_cons (Rows.one hnX11) (one_cons (Row.one haX12) one_nil))) hB24 rfl rfl (fun w36 g37 hB38 => ?_)
  have hs39 := World.grownBy.size g37
  replace E := E.grown g37 (fun k hk => by injection hk with hk; subst hk; omega)
  replace hnX11 := hnX11.stored g37 hB24 (by decide) (by decide)
  replace haX12 := haX12.stored g37 hB24 (by decide)
  replace hnY15 := hnY15.stored g37 hB24 (by decide) (by decide)
  replace haY16 := haY16.stored g37 hB24 (by decide)
  replace hB31 := hB31.grown g37 (by intro h; injection h with h; omega)
  replace hB24 := hB38
  refine Sq.storeAgg agg26 .plain rfl rfl (one_cons rfl (one_cons (Rows.one hnY15) (one_cons (Row.one haY16) one_nil))) hB31 rfl rfl (fun w40 g41 hB42 => ?_)
  have hs43 := World.grownBy.size g41
  replace E := E.grown g41 (fun k hk => by injection hk with hk; subst hk; omega)
  replace hnX11 := hnX11.stored g41 hB31 (by decide) (by decide)
  replace haX12 := haX12.stored g41 hB31 (by decide)
  replace hnY15 := hnY15.stored g41 hB31 (by decide) (by decide)
  replace haY16 := haY16.stored g41 hB31 (by decide)
  replace hB24 := hB24.grown g41 (by intro h; injection h with h; omega)
  replace hB31 := hB42
  refine Sq.nil ?_
  refine Eq.next ?_
  refine Cq.seq ?_
  refine Cq.region ?_
  refine Sq.loadAgg agg26 .plain rfl rfl hB24 rfl ?_
  refine Sq.loadAgg agg26 .plain rfl rfl hB31 rfl ?_
  have hd47 := hB24.lt
  have hd48 := hB31.lt
  refine Sq.call fn16 .plain rfl rfl (fDif_c _ aX7 aY8 _ _ _ _ hnX11 haX12 hnY15 haY16) ?_
  rintro _ w45 ⟨rfl, e46⟩
  have hs49 := Below.size E
  have hs50 := Below.size e46
  replace E := E.trans e46
  replace hnX11 := hnX11.ext e46
  replace haX12 := haX12.ext e46
  replace hnY15 := hnY15.ext e46
  replace haY16 := haY16.ext e46
  replace hB24 := hB24.ext e46
  replace hB31 := hB31.ext e46
  refine Sq.move .plain rfl rfl ?_
  refine Sq.extract .plain rfl rfl rfl ?_
  refine Sq.extract .plain rfl rfl rfl ?_
  refine Sq.assign .plain rfl rfl ?_
  refine Sq.assign .plain rfl rfl ?_
  refine Sq.nil ?_
  refine Eq.next ?_
  refine Cq.seq ?_
  refine Cq.region ?_
  refine Sq.loadAgg agg26 .plain rfl rfl hB24 rfl ?_
  refine Sq.loadAgg agg26 .plain rfl rfl hB31 rfl ?_
  have hd54 := hB24.lt
  have hd55 := hB31.lt
  refine Sq.call fn17 .plain rfl rfl (sfDif_c _ aX7 aY8 _ _ _ _ hnX11 haX12 hnY15 haY16) ?_
  rintro _ w52 ⟨rfl, e53⟩
  have hs56 := Below.size E
  have hs57 := Below.size e53
  replace E := E.trans e53
  replace hnX11 := hnX11.ext e53
  replace haX12 := haX12.ext e53
  replace hnY15 := hnY15.ext e53
  replace haY16 := haY16.ext e53
  replace hB24 := hB24.ext e53
  replace hB31 := hB31.ext e53
  refine Sq.move .plain rfl rfl ?_
  refine Sq.extract .plain rfl rfl rfl ?_
  refine Sq.extract .plain rfl rfl rfl ?_
  refine Sq.assign .plain rfl rfl ?_
  refine Sq.assign .plain rfl rfl ?_
  refine Sq.nil ?_
  refine Eq.next ?_
  refine Cq.seq ?_
  refine Cq.seq ?_
  refine Cq.region ?_
  refine Sq.move .plain rfl rfl ?_
  refine Sq.move .plain rfl rfl ?_
  refine Sq.neqS .plain rfl rfl rfl ?_
  refine Sq.isF (fun h => h rfl) ?_
  refine Sq.move .plain rfl rfl ?_
  refine Sq.move (.met rfl rfl rfl) rfl rfl ?_
  refine Sq.move (.met rfl rfl rfl) rfl rfl ?_
  refine Sq.neqB und4 (.met rfl rfl rfl) rfl rfl rfl ?_
  refine Sq.beF (by simp) ?_
  refine Sq.pickF .plain rfl rfl rfl ?_
  refine Sq.move .plain rfl rfl ?_
  refine Sq.loadAgg agg26 (.met rfl rfl rfl) rfl rfl hB24 rfl ?_
  refine Sq.loadAgg agg26 (.met rfl rfl rfl) rfl rfl hB31 rfl ?_
  have hd61 := hB24.lt
  have hd62 := hB31.lt
  refine Sq.call fn19 (.met rfl rfl rfl) rfl rfl (agTwo_c _ aX7 aY8 _ _ _ _ hnX11 haX12 hnY15 haY16) ?_
  rintro _ w59 ⟨rfl, e60⟩
  have hs63 := Below.size E
  have hs64 := Below.size e60
  replace E := E.trans e60
  replace hnX11 := hnX11.ext e60
  replace haX12 := haX12.ext e60
  replace hnY15 := hnY15.ext e60
  replace haY16 := haY16.ext e60
  replace hB24 := hB24.ext e60
  replace hB31 := hB31.ext e60
  refine Sq.partB (fun hC => ?_) (fun hC => ?_)
  · refine Sq.notT (.met rfl rfl rfl) rfl rfl ?_
    refine Sq.pickF .plain rfl rfl rfl ?_
    refine Sq.nil ?_
    refine Eq.next ?_
    refine Cq.els rfl ?_
    refine Cq.skip ?_
    refine Eq.next ?_
    refine Cq.seq ?_
    refine Cq.region ?_
    refine Sq.loadAgg agg26 .plain rfl rfl hB24 rfl ?_
    refine Sq.call fn41 .plain rfl rfl (compl_c_T _ aX7 _ _ hnX11 haX12 (by exact (cmp2_spec.1 hC).1)) ?_
    rintro _ w66 ⟨⟨_, rfl, nx68, ac69, rfl, hn70, ha71⟩, e67⟩
    have hs72 := Below.size E
    have hs73 := Below.size e67
    replace E := E.trans e67
    replace hnY15 := hnY15.ext e67
    replace haY16 := haY16.ext e67
    replace hB24 := hB24.ext e67
    replace hB31 := hB31.ext e67
    refine Sq.move .plain rfl rfl ?_
    refine Sq.extract .plain rfl rfl rfl ?_
    refine Sq.extract .plain rfl rfl rfl ?_
    refine Sq.alloc zero26 .plain rfl (fun b74 w75 e76 hB77 hlo78 => ?_)
    have hd79 := Nat.le_trans (Below.size E) hlo78
    have hd80 := Nat.lt_of_lt_of_le hB24.lt hlo78
    have hd81 := Nat.lt_of_lt_of_le hB31.lt hlo78
    have hs82 := Below.size e76
    replace E := E.trans e76
    replace hnY15 := hnY15.ext e76
    replace haY16 := haY16.ext e76
    replace hB24 := hB24.ext e76
    replace hB31 := hB31.ext e76
    replace hn70 := hn70.ext e76
    replace ha71 := ha71.ext e76
    refine Sq.storeAgg agg26 .plain rfl rfl (one_cons rfl (one_cons (Rows.one (OwnRows.rows hn70)) (one_cons (Row.one (Own.row ha71)) one_nil))) hB77 rfl rfl (fun w83 g84 hB85 => ?_)
    have hs86 := World.grownBy.size g84
    replace E := E.grown g84 (fun k hk => by injection hk with hk; subst hk; omega)
    replace hnY15 := hnY15.stored g84 hB77 (by decide) (by decide)
    replace haY16 := haY16.stored g84 hB77 (by decide)
    replace hB24 := hB24.grown g84 (by intro h; injection h with h; omega)
    replace hB31 := hB31.grown g84 (by intro h; injection h with h; omega)
    replace hn70 := hn70.stored g84 hB77 (by decide) (by decide)
    replace ha71 := ha71.stored g84 hB77 (by decide)
    replace hB77 := hB85
    refine Sq.assign .plain rfl rfl ?_
    refine Sq.nil ?_
    refine Eq.next ?_
    refine Cq.seq ?_
    refine Cq.region ?_
    refine Sq.loadAgg agg26 .plain rfl rfl hB31 rfl ?_
    refine Sq.call fn41 .plain rfl rfl (compl_c_T _ aY8 _ _ hnY15 haY16 (by exact (cmp2_spec.1 hC).2.1)) ?_
    rintro _ w88 ⟨⟨_, rfl, nx90, ac91, rfl, hn92, ha93⟩, e89⟩
    have hs94 := Below.size E
    have hs95 := Below.size e89
    replace E := E.trans e89
    replace hB24 := hB24.ext e89
    replace hB31 := hB31.ext e89
    replace hn70 := hn70.ext e89
    replace ha71 := ha71.ext e89
    replace hB77 := hB77.ext e89
    refine Sq.move .plain rfl rfl ?_
    refine Sq.extract .plain rfl rfl rfl ?_
    refine Sq.extract .plain rfl rfl rfl ?_
    refine Sq.alloc zero26 .plain rfl (fun b96 w97 e98 hB99 hlo100 => ?_)
    have hd101 := Nat.le_trans (Below.size E) hlo100
    have hd102 := Nat.lt_of_lt_of_le hB24.lt hlo100
    have hd103 := Nat.lt_of_lt_of_le hB31.lt hlo100
    have hd104 := Nat.lt_of_lt_of_le hB77.lt hlo100
    have hs105 := Below.size e98
    replace E := E.trans e98
    replace hB24 := hB24.ext e98
    replace hB31 := hB31.ext e98
    replace hn70 := hn70.ext e98
    replace ha71 := ha71.ext e98
    replace hB77 := hB77.ext e98
    replace hn92 := hn92.ext e98
    replace ha93 := ha93.ext e98
    refine Sq.storeAgg agg26 .plain rfl rfl (one_cons rfl (one_cons (Rows.one (OwnRows.rows hn92)) (one_cons (Row.one (Own.row ha93)) one_nil))) hB99 rfl rfl (fun w106 g107 hB108 => ?_)
    have hs109 := World.grownBy.size g107
    replace E := E.grown g107 (fun k hk => by injection hk with hk; subst hk; omega)
    replace hB24 := hB24.grown g107 (by intro h; injection h with h; omega)
    replace hB31 := hB31.grown g107 (by intro h; injection h with h; omega)
    replace hn70 := hn70.stored g107 hB99 (by decide) (by decide)
    replace ha71 := ha71.stored g107 hB99 (by decide)
    replace hB77 := hB77.grown g107 (by intro h; injection h with h; omega)
    replace hn92 := hn92.stored g107 hB99 (by decide) (by decide)
    replace ha93 := ha93.stored g107 hB99 (by decide)
    replace hB99 := hB108
    refine Sq.assign .plain rfl rfl ?_
    refine Sq.nil ?_
    refine Eq.next ?_
    refine Cq.seq ?_
    refine Cq.region ?_
    refine Sq.loadAgg agg26 .plain rfl rfl hB77 rfl ?_
    refine Sq.loadAgg agg26 .plain rfl rfl hB99 rfl ?_
    have hd113 := hB24.lt
    have hd114 := hB31.lt
    have hd115 := hB77.lt
    have hd116 := hB99.lt
    refine Sq.call fn16 .plain rfl rfl (fDif_c _ (compl aX7) (compl aY8) _ _ _ _ (OwnRows.rows hn70) (Own.row ha71) (OwnRows.rows hn92) (Own.row ha93)) ?_
    rintro _ w111 ⟨rfl, e112⟩
    have hs117 := Below.size E
    have hs118 := Below.size e112
    replace E := E.trans e112
    refine Sq.move .plain rfl rfl ?_
    refine Sq.extract .plain rfl rfl rfl ?_
    refine Sq.extract .plain rfl rfl rfl ?_
    refine Sq.assign .plain rfl rfl ?_
    refine Sq.assign .plain rfl rfl ?_
    refine Sq.nil ?_
    refine Eq.next ?_
    refine Cq.seq ?_
    refine Cq.region ?_
    refine Sq.move .plain rfl rfl ?_
    refine Sq.move .plain rfl rfl ?_
    refine Sq.eqlS .plain rfl rfl rfl ?_
    refine Sq.isT (by rw [dif_compl hC]) ?_
    refine Sq.move .plain rfl rfl ?_
    refine Sq.move (.met rfl rfl rfl) rfl rfl ?_
    refine Sq.move (.met rfl rfl rfl) rfl rfl ?_
    refine Sq.eqlB und4 (.met rfl rfl rfl) rfl rfl rfl ?_
    refine Sq.beT (by rw [dif_compl hC]; exact beq_self_eq_true _) ?_
    refine Sq.pickT .plain rfl rfl rfl ?_
    refine Sq.assign .plain rfl rfl ?_
    refine Sq.nil ?_
    refine Eq.next ?_
    refine Cq.ret ?_
    refine Eq.ret1 rfl rfl ?_
    exact ⟨rfl, E⟩
  refine Sq.notF (.met rfl rfl rfl) rfl rfl ?_
  refine Sq.pickF .plain rfl rfl rfl ?_
  refine Sq.nil ?_
  refine Eq.next ?_
  refine Cq.thn rfl ?_
  refine Cq.seq ?_
  refine Cq.region ?_
  refine Sq.move .plain rfl rfl ?_
  refine Sq.move .plain rfl rfl ?_
  refine Sq.eqlS .plain rfl rfl rfl ?_
  refine Sq.isT (rfl) ?_
  refine Sq.move .plain rfl rfl ?_
  refine Sq.move (.met rfl rfl rfl) rfl rfl ?_
  refine Sq.move (.met rfl rfl rfl) rfl rfl ?_
  refine Sq.eqlB und4 (.met rfl rfl rfl) rfl rfl rfl ?_
  refine Sq.beT (beq_self_eq_true _) ?_
  refine Sq.pickT .plain rfl rfl rfl ?_
  refine Sq.assign .plain rfl rfl ?_
  refine Sq.nil ?_
  refine Eq.next ?_
  refine Cq.ret ?_
  refine Eq.pastRet ?_
  refine Eq.ret1 rfl rfl ?_
  exact ⟨rfl, E⟩
set_option maxRecDepth 100000 in
theorem lDifferOther (w0 : World) (e : TypeId) (a0 : Option Addr) (c0 : Nat) (cs : List UInt8) (hc : Bytes w0 e (.slice a0 cs.length c0) cs) (hcap : cs.length ≤ c0) : Ret Try.prog 13 #[Value.slice a0 cs.length c0] w0 (fun v w => v = .bool true ∧ Ext w0 w) := by
  have E := Ext.refl w0
  refine Ret.of (args := [Value.slice a0 cs.length c0]) Try.func13 rfl rfl rfl ?_
  rintro _ rfl
  show Cq _ _ _ _ [(0, Value.slice a0 cs.length c0)] _
  refine Cq.seq ?_
  refine Cq.region ?_
  refine Sq.assign .plain rfl rfl ?_
  refine Sq.nil ?_
  refine Eq.next ?_
  refine Cq.seq ?_
  refine Cq.seq ?_
  refine Cq.region ?_
  refine Sq.move .plain rfl rfl ?_
  refine Sq.lenBytes (hc.ext E) .plain rfl und22 rfl ?_
  refine Sq.gtr .plain rfl rfl rfl ?_
  refine Sq.part (fun c1 => ?_) (fun c1 => ?_)
  · refine Sq.nil ?_
    refine Eq.next ?_
    refine Cq.thn rfl ?_
    refine Cq.seq ?_
    refine Cq.region ?_
    refine Sq.assign .plain rfl rfl ?_
    refine Sq.nil ?_
    refine Eq.next ?_
    refine Cq.ret ?_
    refine Eq.pastRet ?_
    refine Eq.ret1 rfl rfl ?_
    exact ⟨rfl, E⟩
  refine Sq.nil ?_
  refine Eq.next ?_
  refine Cq.els rfl ?_
  refine Cq.skip ?_
  refine Eq.next ?_
  refine Cq.seq ?_
  refine Cq.region ?_
  refine Sq.move .plain rfl rfl ?_
  refine Sq.call fn15 .plain rfl rfl (drawDif_c _ _ _ _ _ (hc.ext E) hcap) ?_
  rintro v2 w3 ⟨⟨u5, v6, aX7, aY8, rfl, ⟨nxX9, acX10, rfl, hnX11, haX12⟩, ⟨nxY13, acY14, rfl, hnY15, haY16⟩, hsmX17, hsmY18⟩, e4⟩
  have hs19 := Below.size E
  have hs20 := Below.size e4
  replace E := E.trans e4
  refine Sq.move .plain rfl rfl ?_
  refine Sq.extract .plain rfl rfl rfl ?_
  refine Sq.extract .plain rfl rfl rfl ?_
  refine Sq.alloc zero26 .plain rfl (fun b21 w22 e23 hB24 hlo25 => ?_)
  have hd26 := Nat.le_trans (Below.size E) hlo25
  have hs27 := Below.size e23
  replace E := E.trans e23
  replace hnX11 := hnX11.ext e23
  replace haX12 := haX12.ext e23
  replace hnY15 := hnY15.ext e23
  replace haY16 := haY16.ext e23
  refine Sq.alloc zero26 .plain rfl (fun b28 w29 e30 hB31 hlo32 => ?_)
  have hd33 := Nat.le_trans (Below.size E) hlo32
  have hd34 := Nat.lt_of_lt_of_le hB24.lt hlo32
  have hs35 := Below.size e30
  replace E := E.trans e30
  replace hnX11 := hnX11.ext e30
  replace haX12 := haX12.ext e30
  replace hnY15 := hnY15.ext e30
  replace haY16 := haY16.ext e30
  replace hB24 := hB24.ext e30
  refine Sq.storeAgg agg26 .plain rfl rfl (one_cons rfl (one_cons (Rows.one hnX11) (one_cons (Row.one haX12) one_nil))) hB24 rfl rfl (fun w36 g37 hB38 => ?_)
  have hs39 := World.grownBy.size g37
  replace E := E.grown g37 (fun k hk => by injection hk with hk; subst hk; omega)
  replace hnX11 := hnX11.stored g37 hB24 (by decide) (by decide)
  replace haX12 := haX12.stored g37 hB24 (by decide)
  replace hnY15 := hnY15.stored g37 hB24 (by decide) (by decide)
  replace haY16 := haY16.stored g37 hB24 (by decide)
  replace hB31 := hB31.grown g37 (by intro h; injection h with h; omega)
  replace hB24 := hB38
  refine Sq.storeAgg agg26 .plain rfl rfl (one_cons rfl (one_cons (Rows.one hnY15) (one_cons (Row.one haY16) one_nil))) hB31 rfl rfl (fun w40 g41 hB42 => ?_)
  have hs43 := World.grownBy.size g41
  replace E := E.grown g41 (fun k hk => by injection hk with hk; subst hk; omega)
  replace hnX11 := hnX11.stored g41 hB31 (by decide) (by decide)
  replace haX12 := haX12.stored g41 hB31 (by decide)
  replace hnY15 := hnY15.stored g41 hB31 (by decide) (by decide)
  replace haY16 := haY16.stored g41 hB31 (by decide)
  replace hB24 := hB24.grown g41 (by intro h; injection h with h; omega)
  replace hB31 := hB42
  refine Sq.nil ?_
  refine Eq.next ?_
  refine Cq.seq ?_
  refine Cq.region ?_
  refine Sq.loadAgg agg26 .plain rfl rfl hB24 rfl ?_
  refine Sq.loadAgg agg26 .plain rfl rfl hB31 rfl ?_
  have hd47 := hB24.lt
  have hd48 := hB31.lt
  refine Sq.call fn16 .plain rfl rfl (fDif_c _ aX7 aY8 _ _ _ _ hnX11 haX12 hnY15 haY16) ?_
  rintro _ w45 ⟨rfl, e46⟩
  have hs49 := Below.size E
  have hs50 := Below.size e46
  replace E := E.trans e46
  replace hnX11 := hnX11.ext e46
  replace haX12 := haX12.ext e46
  replace hnY15 := hnY15.ext e46
  replace haY16 := haY16.ext e46
  replace hB24 := hB24.ext e46
  replace hB31 := hB31.ext e46
  refine Sq.move .plain rfl rfl ?_
  refine Sq.extract .plain rfl rfl rfl ?_
  refine Sq.extract .plain rfl rfl rfl ?_
  refine Sq.assign .plain rfl rfl ?_
  refine Sq.assign .plain rfl rfl ?_
  refine Sq.nil ?_
  refine Eq.next ?_
  refine Cq.seq ?_
  refine Cq.region ?_
  refine Sq.loadAgg agg26 .plain rfl rfl hB24 rfl ?_
  refine Sq.loadAgg agg26 .plain rfl rfl hB31 rfl ?_
  have hd54 := hB24.lt
  have hd55 := hB31.lt
  refine Sq.call fn17 .plain rfl rfl (sfDif_c _ aX7 aY8 _ _ _ _ hnX11 haX12 hnY15 haY16) ?_
  rintro _ w52 ⟨rfl, e53⟩
  have hs56 := Below.size E
  have hs57 := Below.size e53
  replace E := E.trans e53
  replace hnX11 := hnX11.ext e53
  replace haX12 := haX12.ext e53
  replace hB24 := hB24.ext e53
  replace hB31 := hB31.ext e53
  refine Sq.move .plain rfl rfl ?_
  refine Sq.extract .plain rfl rfl rfl ?_
  refine Sq.extract .plain rfl rfl rfl ?_
  refine Sq.assign .plain rfl rfl ?_
  refine Sq.assign .plain rfl rfl ?_
  refine Sq.nil ?_
  refine Eq.next ?_
  refine Cq.seq ?_
  refine Cq.seq ?_
  refine Cq.region ?_
  refine Sq.move .plain rfl rfl ?_
  refine Sq.move .plain rfl rfl ?_
  refine Sq.neqS .plain rfl rfl rfl ?_
  refine Sq.isF (fun h => h rfl) ?_
  refine Sq.move .plain rfl rfl ?_
  refine Sq.move (.met rfl rfl rfl) rfl rfl ?_
  refine Sq.move (.met rfl rfl rfl) rfl rfl ?_
  refine Sq.neqB und4 (.met rfl rfl rfl) rfl rfl rfl ?_
  refine Sq.beF (by simp) ?_
  refine Sq.pickF .plain rfl rfl rfl ?_
  refine Sq.move .plain rfl rfl ?_
  refine Sq.loadAgg agg26 (.met rfl rfl rfl) rfl rfl hB24 rfl ?_
  have hd61 := hB24.lt
  have hd62 := hB31.lt
  refine Sq.call fn35 (.met rfl rfl rfl) rfl rfl (valid_c _ aX7 _ _ hnX11 haX12) ?_
  rintro _ w59 ⟨rfl, e60⟩
  have hs63 := Below.size E
  have hs64 := Below.size e60
  replace E := E.trans e60
  replace hnX11 := hnX11.ext e60
  replace haX12 := haX12.ext e60
  replace hB24 := hB24.ext e60
  replace hB31 := hB31.ext e60
  refine Sq.partB (fun hv => ?_) (fun hv => ?_)
  · refine Sq.notT (.met rfl rfl rfl) rfl rfl ?_
    refine Sq.pickF .plain rfl rfl rfl ?_
    refine Sq.nil ?_
    refine Eq.next ?_
    refine Cq.els rfl ?_
    refine Cq.skip ?_
    refine Eq.next ?_
    refine Cq.seq ?_
    refine Cq.region ?_
    refine Sq.loadAgg agg26 .plain rfl rfl hB24 rfl ?_
    refine Sq.call fn41 .plain rfl rfl (compl_c_T _ aX7 _ _ hnX11 haX12 (by exact hv)) ?_
    rintro _ w66 ⟨⟨_, rfl, nx68, ac69, rfl, hn70, ha71⟩, e67⟩
    have hs72 := Below.size E
    have hs73 := Below.size e67
    replace E := E.trans e67
    replace hnX11 := hnX11.ext e67
    replace haX12 := haX12.ext e67
    replace hB24 := hB24.ext e67
    replace hB31 := hB31.ext e67
    refine Sq.move .plain rfl rfl ?_
    refine Sq.extract .plain rfl rfl rfl ?_
    refine Sq.extract .plain rfl rfl rfl ?_
    refine Sq.alloc zero26 .plain rfl (fun b74 w75 e76 hB77 hlo78 => ?_)
    have hd79 := Nat.le_trans (Below.size E) hlo78
    have hd80 := Nat.lt_of_lt_of_le hB24.lt hlo78
    have hd81 := Nat.lt_of_lt_of_le hB31.lt hlo78
    have hs82 := Below.size e76
    replace E := E.trans e76
    replace hnX11 := hnX11.ext e76
    replace haX12 := haX12.ext e76
    replace hB24 := hB24.ext e76
    replace hB31 := hB31.ext e76
    replace hn70 := hn70.ext e76
    replace ha71 := ha71.ext e76
    refine Sq.storeAgg agg26 .plain rfl rfl (one_cons rfl (one_cons (Rows.one (OwnRows.rows hn70)) (one_cons (Row.one (Own.row ha71)) one_nil))) hB77 rfl rfl (fun w83 g84 hB85 => ?_)
    have hs86 := World.grownBy.size g84
    replace E := E.grown g84 (fun k hk => by injection hk with hk; subst hk; omega)
    replace hnX11 := hnX11.stored g84 hB77 (by decide) (by decide)
    replace haX12 := haX12.stored g84 hB77 (by decide)
    replace hB24 := hB24.grown g84 (by intro h; injection h with h; omega)
    replace hB31 := hB31.grown g84 (by intro h; injection h with h; omega)
    replace hn70 := hn70.stored g84 hB77 (by decide) (by decide)
    replace ha71 := ha71.stored g84 hB77 (by decide)
    replace hB77 := hB85
    refine Sq.assign .plain rfl rfl ?_
    refine Sq.nil ?_
    refine Eq.next ?_
    refine Cq.seq ?_
    refine Cq.region ?_
    refine Sq.loadAgg agg26 .plain rfl rfl hB24 rfl ?_
    refine Sq.loadAgg agg26 .plain rfl rfl hB77 rfl ?_
    have hd90 := hB24.lt
    have hd91 := hB31.lt
    have hd92 := hB77.lt
    refine Sq.call fn16 .plain rfl rfl (fDif_c _ aX7 (compl aX7) _ _ _ _ hnX11 haX12 (OwnRows.rows hn70) (Own.row ha71)) ?_
    rintro _ w88 ⟨rfl, e89⟩
    have hs93 := Below.size E
    have hs94 := Below.size e89
    replace E := E.trans e89
    replace hnX11 := hnX11.ext e89
    replace haX12 := haX12.ext e89
    replace hB24 := hB24.ext e89
    replace hB31 := hB31.ext e89
    replace hn70 := hn70.ext e89
    replace ha71 := ha71.ext e89
    replace hB77 := hB77.ext e89
    refine Sq.move .plain rfl rfl ?_
    refine Sq.extract .plain rfl rfl rfl ?_
    refine Sq.extract .plain rfl rfl rfl ?_
    refine Sq.assign .plain rfl rfl ?_
    refine Sq.assign .plain rfl rfl ?_
    refine Sq.nil ?_
    refine Eq.next ?_
    refine Cq.seq ?_
    refine Cq.region ?_
    refine Sq.loadAgg agg26 .plain rfl rfl hB24 rfl ?_
    refine Sq.loadAgg agg26 .plain rfl rfl hB24 rfl ?_
    have hd98 := hB24.lt
    have hd99 := hB31.lt
    have hd100 := hB77.lt
    refine Sq.call fn16 .plain rfl rfl (fDif_c _ aX7 aX7 _ _ _ _ hnX11 haX12 hnX11 haX12) ?_
    rintro _ w96 ⟨rfl, e97⟩
    have hs101 := Below.size E
    have hs102 := Below.size e97
    replace E := E.trans e97
    replace hnX11 := hnX11.ext e97
    replace haX12 := haX12.ext e97
    replace hB24 := hB24.ext e97
    replace hB31 := hB31.ext e97
    replace hn70 := hn70.ext e97
    replace ha71 := ha71.ext e97
    replace hB77 := hB77.ext e97
    refine Sq.move .plain rfl rfl ?_
    refine Sq.extract .plain rfl rfl rfl ?_
    refine Sq.extract .plain rfl rfl rfl ?_
    refine Sq.assign .plain rfl rfl ?_
    refine Sq.assign .plain rfl rfl ?_
    refine Sq.nil ?_
    refine Eq.next ?_
    refine Cq.seq ?_
    refine Cq.region ?_
    refine Sq.move .plain rfl rfl ?_
    refine Sq.eqlS .plain rfl rfl rfl ?_
    refine Sq.isT (by rw [dif_other hv]; rfl) ?_
    refine Sq.move .plain rfl rfl ?_
    refine Sq.move (.met rfl rfl rfl) rfl rfl ?_
    refine Sq.beT (by rw [dif_other hv]; rfl) ?_
    refine Sq.pickT .plain rfl rfl rfl ?_
    refine Sq.move .plain rfl rfl ?_
    refine Sq.move (.met rfl rfl rfl) rfl rfl ?_
    refine Sq.beF (by rw [dif_self hv]; rfl) ?_
    refine Sq.notF (.met rfl rfl rfl) rfl rfl ?_
    refine Sq.pickT .plain rfl rfl rfl ?_
    refine Sq.move .plain rfl rfl ?_
    refine Sq.loadAgg agg26 (.met rfl rfl rfl) rfl rfl hB24 rfl ?_
    refine Sq.loadAgg agg26 (.met rfl rfl rfl) rfl rfl hB77 rfl ?_
    have hd106 := hB24.lt
    have hd107 := hB31.lt
    have hd108 := hB77.lt
    refine Sq.call fn40 (.met rfl rfl rfl) rfl rfl (same_c _ aX7 (compl aX7) _ _ _ _ hnX11 haX12 (OwnRows.rows hn70) (Own.row ha71)) ?_
    rintro _ w104 ⟨rfl, e105⟩
    have hs109 := Below.size E
    have hs110 := Below.size e105
    replace E := E.trans e105
    replace hnX11 := hnX11.ext e105
    replace haX12 := haX12.ext e105
    replace hB24 := hB24.ext e105
    replace hB31 := hB31.ext e105
    replace hB77 := hB77.ext e105
    refine Sq.beF (same_other hv) ?_
    refine Sq.notF (.met rfl rfl rfl) rfl rfl ?_
    refine Sq.pickT .plain rfl rfl rfl ?_
    refine Sq.move .plain rfl rfl ?_
    refine Sq.loadAgg agg26 (.met rfl rfl rfl) rfl rfl hB24 rfl ?_
    refine Sq.loadAgg agg26 (.met rfl rfl rfl) rfl rfl hB24 rfl ?_
    have hd114 := hB24.lt
    have hd115 := hB31.lt
    have hd116 := hB77.lt
    refine Sq.call fn40 (.met rfl rfl rfl) rfl rfl (same_c _ aX7 aX7 _ _ _ _ hnX11 haX12 hnX11 haX12) ?_
    rintro _ w112 ⟨rfl, e113⟩
    have hs117 := Below.size E
    have hs118 := Below.size e113
    replace E := E.trans e113
    refine Sq.beT (same_self hv) ?_
    refine Sq.pickT .plain rfl rfl rfl ?_
    refine Sq.assign .plain rfl rfl ?_
    refine Sq.nil ?_
    refine Eq.next ?_
    refine Cq.ret ?_
    refine Eq.ret1 rfl rfl ?_
    exact ⟨rfl, E⟩
  refine Sq.notF (.met rfl rfl rfl) rfl rfl ?_
  refine Sq.pickF .plain rfl rfl rfl ?_
  refine Sq.nil ?_
  refine Eq.next ?_
  refine Cq.thn rfl ?_
  refine Cq.seq ?_
  refine Cq.region ?_
  refine Sq.move .plain rfl rfl ?_
  refine Sq.move .plain rfl rfl ?_
  refine Sq.eqlS .plain rfl rfl rfl ?_
  refine Sq.isT (rfl) ?_
  refine Sq.move .plain rfl rfl ?_
  refine Sq.move (.met rfl rfl rfl) rfl rfl ?_
  refine Sq.move (.met rfl rfl rfl) rfl rfl ?_
  refine Sq.eqlB und4 (.met rfl rfl rfl) rfl rfl rfl ?_
  refine Sq.beT (beq_self_eq_true _) ?_
  refine Sq.pickT .plain rfl rfl rfl ?_
  refine Sq.assign .plain rfl rfl ?_
  refine Sq.nil ?_
  refine Eq.next ?_
  refine Cq.ret ?_
  refine Eq.pastRet ?_
  refine Eq.ret1 rfl rfl ?_
  exact ⟨rfl, E⟩
set_option maxRecDepth 100000 in
theorem lWithinBoth (w0 : World) (e : TypeId) (a0 : Option Addr) (c0 : Nat) (cs : List UInt8) (hc : Bytes w0 e (.slice a0 cs.length c0) cs) (hcap : cs.length ≤ c0) : Ret Try.prog 10 #[Value.slice a0 cs.length c0] w0 (fun v w => v = .bool true ∧ Ext w0 w) := by
  have E := Ext.refl w0
  refine Ret.of (args := [Value.slice a0 cs.length c0]) Try.func10 rfl rfl rfl ?_
  rintro _ rfl
  show Cq _ _ _ _ [(0, Value.slice a0 cs.length c0)] _
  refine Cq.seq ?_
  refine Cq.region ?_
  refine Sq.assign .plain rfl rfl ?_
  refine Sq.nil ?_
  refine Eq.next ?_
  refine Cq.seq ?_
  refine Cq.seq ?_
  refine Cq.region ?_
  refine Sq.move .plain rfl rfl ?_
  refine Sq.lenBytes (hc.ext E) .plain rfl und22 rfl ?_
  refine Sq.gtr .plain rfl rfl rfl ?_
  refine Sq.part (fun c1 => ?_) (fun c1 => ?_)
  · refine Sq.nil ?_
    refine Eq.next ?_
    refine Cq.thn rfl ?_
    refine Cq.seq ?_
    refine Cq.region ?_
    refine Sq.assign .plain rfl rfl ?_
    refine Sq.nil ?_
    refine Eq.next ?_
    refine Cq.ret ?_
    refine Eq.pastRet ?_
    refine Eq.ret1 rfl rfl ?_
    exact ⟨rfl, E⟩
  refine Sq.nil ?_
  refine Eq.next ?_
  refine Cq.els rfl ?_
  refine Cq.skip ?_
  refine Eq.next ?_
  refine Cq.seq ?_
  refine Cq.region ?_
  refine Sq.move .plain rfl rfl ?_
  refine Sq.call fn37 .plain rfl rfl (drawWithin_c _ _ _ _ _ (hc.ext E) hcap) ?_
  rintro v2 w3 ⟨⟨u5, v6, aX7, aY8, rfl, ⟨nxX9, acX10, rfl, hnX11, haX12⟩, ⟨nxY13, acY14, rfl, hnY15, haY16⟩, hsmX17, hsmY18⟩, e4⟩
  have hs19 := Below.size E
  have hs20 := Below.size e4
  replace E := E.trans e4
  refine Sq.move .plain rfl rfl ?_
  refine Sq.extract .plain rfl rfl rfl ?_
  refine Sq.extract .plain rfl rfl rfl ?_
  refine Sq.alloc zero26 .plain rfl (fun b21 w22 e23 hB24 hlo25 => ?_)
  have hd26 := Nat.le_trans (Below.size E) hlo25
  have hs27 := Below.size e23
  replace E := E.trans e23
  replace hnX11 := hnX11.ext e23
  replace haX12 := haX12.ext e23
  replace hnY15 := hnY15.ext e23
  replace haY16 := haY16.ext e23
  refine Sq.alloc zero26 .plain rfl (fun b28 w29 e30 hB31 hlo32 => ?_)
  have hd33 := Nat.le_trans (Below.size E) hlo32
  have hd34 := Nat.lt_of_lt_of_le hB24.lt hlo32
  have hs35 := Below.size e30
  replace E := E.trans e30
  replace hnX11 := hnX11.ext e30
  replace haX12 := haX12.ext e30
  replace hnY15 := hnY15.ext e30
  replace haY16 := haY16.ext e30
  replace hB24 := hB24.ext e30
  refine Sq.storeAgg agg26 .plain rfl rfl (one_cons rfl (one_cons (Rows.one hnX11) (one_cons (Row.one haX12) one_nil))) hB24 rfl rfl (fun w36 g37 hB38 => ?_)
  have hs39 := World.grownBy.size g37
  replace E := E.grown g37 (fun k hk => by injection hk with hk; subst hk; omega)
  replace hnX11 := hnX11.stored g37 hB24 (by decide) (by decide)
  replace haX12 := haX12.stored g37 hB24 (by decide)
  replace hnY15 := hnY15.stored g37 hB24 (by decide) (by decide)
  replace haY16 := haY16.stored g37 hB24 (by decide)
  replace hB31 := hB31.grown g37 (by intro h; injection h with h; omega)
  replace hB24 := hB38
  refine Sq.storeAgg agg26 .plain rfl rfl (one_cons rfl (one_cons (Rows.one hnY15) (one_cons (Row.one haY16) one_nil))) hB31 rfl rfl (fun w40 g41 hB42 => ?_)
  have hs43 := World.grownBy.size g41
  replace E := E.grown g41 (fun k hk => by injection hk with hk; subst hk; omega)
  replace hnX11 := hnX11.stored g41 hB31 (by decide) (by decide)
  replace haX12 := haX12.stored g41 hB31 (by decide)
  replace hnY15 := hnY15.stored g41 hB31 (by decide) (by decide)
  replace haY16 := haY16.stored g41 hB31 (by decide)
  replace hB24 := hB24.grown g41 (by intro h; injection h with h; omega)
  replace hB31 := hB42
  refine Sq.nil ?_
  refine Eq.next ?_
  refine Cq.seq ?_
  refine Cq.region ?_
  refine Sq.loadAgg agg26 .plain rfl rfl hB24 rfl ?_
  refine Sq.loadAgg agg26 .plain rfl rfl hB31 rfl ?_
  have hd47 := hB24.lt
  have hd48 := hB31.lt
  refine Sq.call fn38 .plain rfl rfl (within2_c _ aX7 aY8 _ _ _ _ hnX11 haX12 hnY15 haY16) ?_
  rintro _ w45 ⟨rfl, e46⟩
  have hs49 := Below.size E
  have hs50 := Below.size e46
  replace E := E.trans e46
  replace hnX11 := hnX11.ext e46
  replace haX12 := haX12.ext e46
  replace hnY15 := hnY15.ext e46
  replace haY16 := haY16.ext e46
  replace hB24 := hB24.ext e46
  replace hB31 := hB31.ext e46
  refine Sq.assign .plain rfl rfl ?_
  refine Sq.nil ?_
  refine Eq.next ?_
  refine Cq.seq ?_
  refine Cq.seq ?_
  refine Cq.region ?_
  refine Sq.move .plain rfl rfl ?_
  refine Sq.loadAgg agg26 .plain rfl rfl hB24 rfl ?_
  refine Sq.loadAgg agg26 .plain rfl rfl hB31 rfl ?_
  have hd54 := hB24.lt
  have hd55 := hB31.lt
  refine Sq.call fn39 .plain rfl rfl (sWithin2_c _ aX7 aY8 _ _ _ _ hnX11 haX12 hnY15 haY16) ?_
  rintro _ w52 ⟨rfl, e53⟩
  have hs56 := Below.size E
  have hs57 := Below.size e53
  replace E := E.trans e53
  replace hnX11 := hnX11.ext e53
  replace haX12 := haX12.ext e53
  replace hnY15 := hnY15.ext e53
  replace haY16 := haY16.ext e53
  replace hB24 := hB24.ext e53
  replace hB31 := hB31.ext e53
  refine Sq.neqB und4 .plain rfl rfl rfl ?_
  refine Sq.beF (by simp) ?_
  refine Sq.nil ?_
  refine Eq.next ?_
  refine Cq.els rfl ?_
  refine Cq.skip ?_
  refine Eq.next ?_
  refine Cq.seq ?_
  refine Cq.region ?_
  refine Sq.loadAgg agg26 .plain rfl rfl hB24 rfl ?_
  refine Sq.loadAgg agg26 .plain rfl rfl hB31 rfl ?_
  have hd61 := hB24.lt
  have hd62 := hB31.lt
  refine Sq.call fn40 .plain rfl rfl (same_c _ aX7 aY8 _ _ _ _ hnX11 haX12 hnY15 haY16) ?_
  rintro _ w59 ⟨rfl, e60⟩
  have hs63 := Below.size E
  have hs64 := Below.size e60
  replace E := E.trans e60
  replace hnX11 := hnX11.ext e60
  replace haX12 := haX12.ext e60
  replace hnY15 := hnY15.ext e60
  replace haY16 := haY16.ext e60
  replace hB24 := hB24.ext e60
  replace hB31 := hB31.ext e60
  refine Sq.move .plain rfl rfl ?_
  refine Sq.partB (fun h1 => ?_) (fun h1 => ?_)
  · refine Sq.move .plain rfl rfl ?_
    refine Sq.loadAgg agg26 (.met rfl rfl rfl) rfl rfl hB31 rfl ?_
    refine Sq.loadAgg agg26 (.met rfl rfl rfl) rfl rfl hB24 rfl ?_
    have hd68 := hB24.lt
    have hd69 := hB31.lt
    refine Sq.call fn38 (.met rfl rfl rfl) rfl rfl (within2_c _ aY8 aX7 _ _ _ _ hnY15 haY16 hnX11 haX12) ?_
    rintro _ w66 ⟨rfl, e67⟩
    have hs70 := Below.size E
    have hs71 := Below.size e67
    replace E := E.trans e67
    refine Sq.pickT .plain rfl rfl rfl ?_
    refine Sq.eqlB und4 .plain rfl rfl rfl ?_
    refine Sq.beT (by rw [within_both, h1, Bool.true_and]; exact beq_self_eq_true _) ?_
    refine Sq.assign .plain rfl rfl ?_
    refine Sq.nil ?_
    refine Eq.next ?_
    refine Cq.ret ?_
    refine Eq.ret1 rfl rfl ?_
    exact ⟨rfl, E⟩
  refine Sq.move .plain rfl rfl ?_
  refine Sq.off rfl rfl rfl rfl rfl rfl ?_
  refine Sq.off rfl rfl rfl rfl rfl rfl ?_
  refine Sq.off rfl rfl rfl rfl rfl rfl ?_
  refine Sq.pickF .plain rfl rfl rfl ?_
  refine Sq.eqlB und4 .plain rfl rfl rfl ?_
  refine Sq.beT (by rw [within_both, h1, Bool.false_and]; rfl) ?_
  refine Sq.assign .plain rfl rfl ?_
  refine Sq.nil ?_
  refine Eq.next ?_
  refine Cq.ret ?_
  refine Eq.ret1 rfl rfl ?_
  exact ⟨rfl, E⟩
end Go.Proofs.Ytnokhaflopgnnaa
set_option linter.unusedSimpArgs false
set_option linter.unusedVariables false
namespace Go.Proofs.Ytnokhaflopgnnaa
open Go.RowKit
def IsRow (k : IntKind) (w : World) (a : Option Addr) (len cap : Nat) (zs : List Int) : Prop :=
  (a = none ∧ len = 0 ∧ cap = 0 ∧ zs = []) ∨
  ∃ x, a = some x ∧ len ≤ cap ∧ cap ≤ maxLen ∧ zs.length = cap ∧ (∀ i, i < zs.length → w.cell? (x.add i) = some (.int k (zs.getD i 0))) ∧ ∀ n ∈ zs, (Lit.int k n).wf = true
theorem wf8 {n : Int} (h : (Lit.int .u8 n).wf = true) : 0 ≤ n ∧ n ≤ 255 := by
  simp [Lit.wf, IntKind.min, IntKind.max, IntKind.signed, IntKind.bits] at h
  omega
theorem bytes_of {w : World} {a : Option Addr} {len cap : Nat} {zs : List Int} (h : IsRow .u8 w a len cap zs) : ∃ e xs, len = List.length xs ∧ Bytes w e (.slice a xs.length cap) xs ∧ xs.length ≤ cap := by
  rcases h with ⟨rfl, rfl, rfl, rfl⟩ | ⟨x, rfl, hl, hm, hz, hcell, hwz⟩
  · exact ⟨0, [], rfl, .inl ⟨rfl, none, 0, rfl, fun _ => rfl⟩, Nat.le_refl _⟩
  · rcases Nat.eq_zero_or_pos len with h0 | h0
    · subst h0
      exact ⟨0, [], rfl, .inl ⟨rfl, some x, cap, rfl, fun h => by cases h⟩, Nat.zero_le _⟩
    · obtain ⟨b, o, s⟩ := x
      have hc := hcell 0 (by omega)
      have hs : s = none := by simpa [Addr.add] using World.cell?_spot hc
      subst hs
      have hb : ∃ cur e fr, w.heap[b]? = some (.cells cur e fr) := by
        rw [addr_add] at hc
        unfold World.cell? at hc
        simp only at hc
        cases hw : w.heap[b]? with
        | none => rw [hw] at hc; simp at hc
        | some ob =>
          rw [hw] at hc
          cases ob <;> simp at hc
          rename_i cur e fr
          exact ⟨cur, e, fr, rfl⟩
      obtain ⟨cur, e, fr, hb⟩ := hb
      have hlen : ((zs.take len).map fun z => UInt8.ofNat z.toNat).length = len := by simp; omega
      refine ⟨e, (zs.take len).map fun z => UInt8.ofNat z.toNat, hlen.symm, .inr ⟨b, o, cap, cur, fr, by simp, hb, fun i y hy => ?_⟩, by omega⟩
      have hi : i < len := by
        have := (List.getElem?_eq_some_iff.1 hy).1
        simp at this; omega
      have hi2 : i < zs.length := by omega
      have h1 := hcell i hi2
      rw [addr_add] at h1
      have h2 : y = .int .u8 (zs.getD i 0) := by
        have hw := wf8 (hwz _ (List.getElem_mem hi2))
        have e2 := u8_of hw
        simp [List.getElem?_take, hi, hi2] at hy
        rw [← hy]
        simp [hi2]
        omega
      rw [h2]
      simpa [World.cell?, hb] using h1
end Go.Proofs.Ytnokhaflopgnnaa
