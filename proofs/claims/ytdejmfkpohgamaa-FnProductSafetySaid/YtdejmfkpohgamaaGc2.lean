/-
  The texts of this proof, joined (wip/merge.py): the calculus of slots, plain mathematics, walks.
-/
import Derived.Test.YtdejmfkpohgamaaGc1
set_option linter.unusedSimpArgs false
set_option linter.unusedVariables false
namespace Go.Proofs.Ytdejmfkpohgamaa
open Go.RowKit
set_option maxRecDepth 100000 in
theorem l1Place_c (al x : Int) (h : 0 ≤ al ∧ al ≤ 63) (hx : 0 ≤ x ∧ x ≤ 6) (w0 : World) : Ret Try.prog 92 #[Value.int .i64 al, Value.int .i64 x] w0 (fun v w => v = .int .i64 (place al x : Nat) ∧ w0 = w) := by
  refine Ret.of (args := [Value.int .i64 al, Value.int .i64 x]) Try.func92 rfl rfl rfl ?_
  rintro _ rfl
  show Cq _ _ _ _ [(0, Value.int .i64 al), (1, Value.int .i64 x)] _
  refine Cq.seq ?_
  refine Cq.region ?_
  refine Sq.assign .plain rfl rfl ?_
  refine Sq.nil ?_
  refine Eq.next ?_
  refine Cq.seq ?_
  refine Cq.region ?_
  refine Sq.assign .plain rfl rfl ?_
  refine Sq.nil ?_
  refine Eq.next ?_
  refine Cq.seq ?_
  refine Cq.seq ?_
  refine Cq.region ?_
  refine Sq.assign .plain rfl rfl ?_
  refine Sq.nil ?_
  refine Eq.next ?_
  refine Cq.block ?_
  refine Cq.loop (fun nn w ls => ∃ (k : Int), ∃ (n : Int), ls = [(0, Value.int .i64 al), (1, Value.int .i64 x), (5, Value.int .i64 n), (6, Value.int .i64 k)] ∧ w0 = w ∧ (0 ≤ k ∧ k ≤ x) ∧ (n = ((lettersTo al k.toNat).length : Nat) ∧ n ≤ k) ∧ nn = (x - k).toNat) _ _ ⟨0, 0, rfl, rfl, by omega, ⟨rfl, by omega⟩, rfl⟩ (.cons rfl (.cons rfl (.cons rfl (.cons rfl (.nil))))) ?_
  rintro n1 w ls ⟨k, n, rfl, rfl, hk, hn, rfl⟩
  refine Cq.seq ?_
  refine Cq.seq ?_
  refine Cq.region ?_
  refine Sq.move .plain rfl rfl ?_
  refine Sq.move .plain rfl rfl ?_
  refine Sq.lss .plain rfl rfl rfl ?_
  refine Sq.part (fun c1 => ?_) (fun c1 => ?_)
  · refine Sq.nil ?_
    refine Eq.next ?_
    refine Cq.thn rfl ?_
    refine Cq.skip ?_
    refine Eq.next ?_
    refine Cq.seq ?_
    refine Cq.block ?_
    refine Cq.seq ?_
    refine Cq.region ?_
    refine Sq.move .plain rfl rfl ?_
    refine Sq.move .plain rfl rfl ?_
    refine Sq.call fn91 .plain rfl rfl (l1Has_c _ _ (by omega) (by omega) _) ?_
    rintro _ _ ⟨rfl, rfl⟩
    refine Sq.partB (fun hb => ?_) (fun hb => ?_)
    · refine Sq.nil ?_
      refine Eq.next ?_
      refine Cq.thn rfl ?_
      refine Cq.region ?_
      refine Sq.move .plain rfl rfl ?_
      refine Sq.add .plain rfl rfl rfl (by omega) ?_
      refine Sq.assign .plain rfl rfl ?_
      refine Sq.nil ?_
      refine Eq.end ?_
      refine Eq.next ?_
      refine Cq.region ?_
      refine Sq.move .plain rfl rfl ?_
      refine Sq.add .plain rfl rfl rfl (by omega) ?_
      refine Sq.assign .plain rfl rfl ?_
      refine Sq.nil ?_
      have e1 := toNat_succ hk.1
      have hb' : hs al (k.toNat : Int) = true := by rw [Int.toNat_of_nonneg hk.1]; exact hb
      refine Eq.round _ _ ⟨k + 1, _, rfl, rfl, by omega, ⟨by rw [e1, lettersTo_T hb', List.length_append, hn.1]; rfl, by omega⟩, rfl⟩ (by omega) (.cons rfl (.cons rfl (.cons rfl (.cons rfl (.nil)))))
    refine Sq.nil ?_
    refine Eq.next ?_
    refine Cq.els rfl ?_
    refine Cq.skip ?_
    refine Eq.end ?_
    refine Eq.next ?_
    refine Cq.region ?_
    refine Sq.move .plain rfl rfl ?_
    refine Sq.add .plain rfl rfl rfl (by omega) ?_
    refine Sq.assign .plain rfl rfl ?_
    refine Sq.nil ?_
    have e1 := toNat_succ hk.1
    have hb' : hs al (k.toNat : Int) = false := by rw [Int.toNat_of_nonneg hk.1]; exact hb
    refine Eq.round _ _ ⟨k + 1, _, rfl, rfl, by omega, ⟨by rw [e1, lettersTo_F hb']; exact hn.1, by omega⟩, rfl⟩ (by omega) (.cons rfl (.cons rfl (.cons rfl (.cons rfl (.nil)))))
  refine Sq.nil ?_
  refine Eq.next ?_
  refine Cq.els rfl ?_
  refine Cq.exit ?_
  refine Eq.past ?_
  refine Eq.past ?_
  refine Eq.hit ?_
  refine Eq.next ?_
  refine Cq.seq ?_
  refine Cq.region ?_
  refine Sq.move .plain rfl rfl ?_
  refine Sq.assign .plain rfl rfl ?_
  refine Sq.nil ?_
  refine Eq.next ?_
  refine Cq.ret ?_
  refine Eq.ret1 rfl rfl ?_
  obtain rfl : k = x := by omega
  exact ⟨by rw [hn.1]; rfl, rfl⟩
set_option maxRecDepth 100000 in
theorem l3Go_c (w0 : World) (a : A) (nx ac : Value) (hnx : Rows w0 56 3 nx a.next) (hac : Bools w0 4 ac a.acc) (hv : validA a = true) (q x : Int) (hq : 0 ≤ q ∧ q < a.next.length) (hx : 0 ≤ x ∧ x < 6) : Ret Try.prog 54 #[Value.agg #[Value.int .i64 a.al, nx, ac], Value.int .i64 q, Value.int .i64 x] w0 (fun v w => v = .int .i64 (goA a q x) ∧ Ext w0 w) := by
  have E := Ext.refl w0
  have hal := (validA_spec.1 hv).1
  refine Ret.of (args := [Value.agg #[Value.int .i64 a.al, nx, ac], Value.int .i64 q, Value.int .i64 x]) Try.func54 rfl rfl rfl ?_
  rintro _ rfl
  show Cq _ _ _ _ [(0, Value.agg #[Value.int .i64 a.al, nx, ac]), (1, Value.int .i64 q), (2, Value.int .i64 x)] _
  refine Cq.seq ?_
  refine Cq.region ?_
  refine Sq.box .plain rfl rfl (fun b1 w2 e3 hB4 hlo5 => ?_)
  have hd6 := Nat.le_trans (Below.size E) hlo5
  have hs7 := Below.size e3
  replace E := E.trans e3
  refine Sq.assign .plain rfl rfl ?_
  refine Sq.nil ?_
  refine Eq.next ?_
  refine Cq.seq ?_
  refine Cq.seq ?_
  refine Cq.region ?_
  refine Sq.fieldAddr fld26_0 .plain rfl rfl ?_
  refine Sq.loadB one3 .plain rfl rfl hB4 rfl ?_
  refine Sq.move .plain rfl rfl ?_
  refine Sq.call fn91 .plain rfl rfl (l1Has_c _ _ (by omega) (by omega) _) ?_
  rintro _ _ ⟨rfl, rfl⟩
  refine Sq.partB (fun hh => ?_) (fun hh => ?_)
  · refine Sq.notT .plain rfl rfl ?_
    refine Sq.nil ?_
    refine Eq.next ?_
    refine Cq.els rfl ?_
    refine Cq.skip ?_
    refine Eq.next ?_
    refine Cq.seq ?_
    refine Cq.drawS 11 (fun w' => Blk w' b1 26 [Value.int .i64 a.al, nx, ac] ∧ Ext w0 w') mixed (⟨hB4, E⟩) (fun w8 e9 hS => ?_)
    clear hS
    have hs10 := Below.size e9
    replace E := E.trans e9
    replace hB4 := hB4.ext e9
    refine Gq.st 0 rfl (by kernel_rfl) rfl .plain rfl (fun _ _ _ h => h) ⟨hB4, E⟩ (fun w' x => Still.fieldAddr fld26_1 rfl) ?_
    refine Gq.st 1 rfl (by kernel_rfl) rfl .plain rfl (fun _ _ _ h => h) ⟨hB4, E⟩ (fun w' x => Still.loadB one23 rfl x.1 rfl) ?_
    refine Gq.st 2 rfl (by kernel_rfl) rfl .plain rfl (fun _ _ _ h => h) ⟨hB4, E⟩ (fun w' x => Still.move rfl) ?_
    obtain ⟨p11, r13, hp12_w8, hr14⟩ := Rows.at hnx (i := q) (by omega) (by omega)
    refine Gq.st 3 rfl (by kernel_rfl) rfl .plain rfl (fun _ _ _ h => h) ⟨hB4, E⟩ (fun w' x => Still.at' sl23 hp12_w8 rfl rfl) ?_
    refine Gq.st 4 rfl (by kernel_rfl) rfl .plain rfl (fun _ _ _ h => h) ⟨hB4, E⟩ (fun w' x => Still.loadA one56 rfl (hp12_w8.ext (x.2)).1) ?_
    refine Gq.st 5 rfl (by kernel_rfl) rfl .plain rfl (fun _ _ _ h => h) ⟨hB4, E⟩ (fun w' x => Still.fieldAddr fld26_0 rfl) ?_
    refine Gq.st 6 rfl (by kernel_rfl) rfl .plain rfl (fun _ _ _ h => h) ⟨hB4, E⟩ (fun w' x => Still.loadB one3 rfl x.1 rfl) ?_
    refine Gq.st 7 rfl (by kernel_rfl) rfl .plain rfl (fun _ _ _ h => h) ⟨hB4, E⟩ (fun w' x => Still.move rfl) ?_
    refine Gq.one 8 rfl (by kernel_rfl) ?_
    refine Sq.call fn92 .plain rfl rfl (l1Place_c a.al x (by omega) (by omega) _) ?_
    rintro _ _ ⟨rfl, rfl⟩
    refine Sq.nil ?_
    refine Eq.goes (fun _ => ⟨hB4, E⟩) ?_
    obtain ⟨p15, hp16_w8⟩ := Ints.at hr14 (i := ((place a.al x : Nat) : Int)) (by omega) (by have := place_lt hal hx hh; rw [valid_row hv (by omega)]; rw [Int.toNat_natCast]; exact this.1)
    refine Gq.st 9 rfl (by kernel_rfl) rfl .plain rfl (fun _ _ _ h => h) ⟨hB4, E⟩ (fun w' x => Still.at' sl56 hp16_w8 rfl rfl) ?_
    refine Gq.st 10 rfl (by kernel_rfl) rfl .plain rfl (fun _ _ _ h => h) ⟨hB4, E⟩ (fun w' x => Still.loadA one3 rfl (hp16_w8.ext (x.2)).1) ?_
    refine Gq.one 11 rfl (by kernel_rfl) ?_
    refine Sq.assign .plain rfl rfl ?_
    refine Sq.nil ?_
    refine Eq.goes (fun h => absurd h (by decide)) ?_
    refine Gq.done (by kernel_rfl) ?_
    refine Eq.next ?_
    refine Cq.ret ?_
    refine Eq.ret1 rfl rfl ?_
    exact ⟨by rw [goA_yes hh]; rfl, E⟩
  refine Sq.notF .plain rfl rfl ?_
  refine Sq.nil ?_
  refine Eq.next ?_
  refine Cq.thn rfl ?_
  refine Cq.seq ?_
  refine Cq.region ?_
  refine Sq.move .plain rfl rfl ?_
  refine Sq.assign .plain rfl rfl ?_
  refine Sq.nil ?_
  refine Eq.next ?_
  refine Cq.ret ?_
  refine Eq.pastRet ?_
  refine Eq.ret1 rfl rfl ?_
  exact ⟨by rw [goA_no hh], E⟩
set_option maxRecDepth 100000 in
theorem tableOf_c (w0 : World) (a : A) (nx ac : Value) (hnx : Rows w0 56 3 nx a.next) (hac : Bools w0 4 ac a.acc) (hv : validA a = true) : Ret Try.prog 48 #[Value.agg #[Value.int .i64 a.al, nx, ac]] w0 (fun v w => (∃ b xs, v = .slice (some ⟨b, 0, none⟩) a.next.length a.next.length ∧ w0.heap.size ≤ b ∧ Blk w b 62 (xs.map (Value.int .i64)) ∧ Tab a xs) ∧ Ext w0 w) := by
  have E := Ext.refl w0
  have hvs := validA_spec.1 hv
  have hvs1 := hvs.1
  have hvs2 := hvs.2.1
  refine Ret.of (args := [Value.agg #[Value.int .i64 a.al, nx, ac]]) Try.func48 rfl rfl rfl ?_
  rintro _ rfl
  show Cq _ _ _ _ [(0, Value.agg #[Value.int .i64 a.al, nx, ac])] _
  refine Cq.seq ?_
  refine Cq.region ?_
  refine Sq.box .plain rfl rfl (fun b1 w2 e3 hB4 hlo5 => ?_)
  have hd6 := Nat.le_trans (Below.size E) hlo5
  have hs7 := Below.size e3
  replace E := E.trans e3
  refine Sq.assign .plain rfl rfl ?_
  refine Sq.nil ?_
  refine Eq.next ?_
  refine Cq.seq ?_
  refine Cq.region ?_
  refine Sq.fieldAddr fld26_1 .plain rfl rfl ?_
  refine Sq.loadB one23 .plain rfl rfl hB4 rfl ?_
  refine Sq.lenRows (hnx.ext E) .plain rfl und23 rfl ?_
  refine Sq.makeK slk57 (mk57).1 (by decide) (mk57).2 .plain rfl rfl rfl rfl (by omega) (fun b8 w9 e10 hlo11 hB12 => ?_)
  have hd13 := Nat.le_trans (Below.size E) hlo11
  have hd14 := Nat.lt_of_lt_of_le hB4.lt hlo11
  have hs15 := Below.size e10
  replace E := E.trans e10
  replace hB4 := hB4.ext e10
  refine Sq.assign .plain rfl rfl ?_
  refine Sq.nil ?_
  refine Eq.next ?_
  refine Cq.seq ?_
  refine Cq.region ?_
  refine Sq.fieldAddr fld26_0 .plain rfl rfl ?_
  refine Sq.loadB one3 .plain rfl rfl hB4 rfl ?_
  have hd20 := hB4.lt
  have hd21 := hB12.lt
  refine Sq.call fn50 .plain rfl rfl (lettersOf_c a.al (by omega) _) ?_
  rintro v16 w17 ⟨hl19, e18⟩
  have hs22 := Below.size E
  have hs23 := Below.size e18
  replace E := E.trans e18
  replace hB4 := hB4.ext e18
  replace hB12 := hB12.ext e18
  refine Sq.assign .plain rfl rfl ?_
  refine Sq.nil ?_
  refine Eq.next ?_
  refine Cq.seq ?_
  refine Cq.seq ?_
  refine Cq.region ?_
  refine Sq.fieldAddr fld26_1 .plain rfl rfl ?_
  refine Sq.loadB one23 .plain rfl rfl hB4 rfl ?_
  refine Sq.lenRows (hnx.ext E) .plain rfl und23 rfl ?_
  refine Sq.move .plain rfl rfl ?_
  refine Sq.nil ?_
  refine Eq.next ?_
  refine Cq.block ?_
  refine Cq.loop (fun nn w ls => ∃ (q : Int), ∃ (xs : List Int), ls = [(3, Value.slice (some ⟨b8, 0, none⟩) a.next.length a.next.length), (4, v16), (18, nx), (19, Value.int .i64 (List.length a.next : Int)), (20, Value.int .i64 q)] ∧ (0 ≤ q ∧ q ≤ a.next.length) ∧ Blk w b8 62 (xs.map (Value.int .i64)) ∧ TabPre a q.toNat 0 xs ∧ Ext w0 w ∧ Own w w9.heap.size 3 v16 ((letters a.al).map (Value.int .i64)) ∧ nn = ((a.next.length : Int) - q).toNat) _ _ ⟨0, _, rfl, by omega, hB12, TabPre.zero a, E, hl19, rfl⟩ (.cons rfl (.cons rfl (.cons rfl (.cons rfl (.cons rfl (.nil)))))) ?_
  rintro nn wl1 ls ⟨q, xs, rfl, hq, hT, ht, E, hl19, rfl⟩
  have hs24 := Below.size E
  have htl := ht.1
  refine Cq.seq ?_
  refine Cq.region ?_
  refine Sq.lss .plain rfl rfl rfl ?_
  refine Sq.part (fun c25 => ?_) (fun c25 => ?_)
  · refine Sq.nil ?_
    refine Eq.next ?_
    refine Cq.seq ?_
    refine Cq.thn rfl ?_
    refine Cq.skip ?_
    refine Eq.next ?_
    refine Cq.seq ?_
    refine Cq.block ?_
    refine Cq.seq ?_
    refine Cq.region ?_
    refine Sq.move .plain rfl rfl ?_
    refine Sq.idxRows sl23 one56 (hnx.ext E) .plain rfl rfl rfl .plain rfl rfl (by omega) (by omega) (fun r26 hr27 => ?_)
    refine Sq.assign .plain rfl rfl ?_
    refine Sq.assign .plain rfl rfl ?_
    refine Sq.nil ?_
    refine Eq.next ?_
    refine Cq.seq ?_
    refine Cq.seq ?_
    refine Cq.region ?_
    refine Sq.move .plain rfl rfl ?_
    refine Sq.nil ?_
    refine Eq.next ?_
    refine Cq.block ?_
    refine Cq.loop (fun nn w ls => ∃ (l : Int), ∃ (xs : List Int), ls = [(3, Value.slice (some ⟨b8, 0, none⟩) a.next.length a.next.length), (4, v16), (5, Value.int .i64 q), (6, r26), (18, nx), (19, Value.int .i64 (List.length a.next : Int)), (20, Value.int .i64 q), (25, Value.int .i64 l)] ∧ (0 ≤ l ∧ l ≤ 6) ∧ Blk w b8 62 (xs.map (Value.int .i64)) ∧ TabPre a q.toNat l.toNat xs ∧ Ext w0 w ∧ Own w w9.heap.size 3 v16 ((letters a.al).map (Value.int .i64)) ∧ Ints w 3 r26 (a.next.getD q.toNat []) ∧ nn = (6 - l).toNat) _ _ ⟨0, _, rfl, by omega, hT, ht, E, hl19, hr27, rfl⟩ (.cons rfl (.cons rfl (.cons rfl (.cons rfl (.cons rfl (.cons rfl (.cons rfl (.cons rfl (.nil))))))))) ?_
    rintro nn wl2 ls ⟨l, xs, rfl, hl, hT, ht, E, hl19, hr27, rfl⟩
    have hs28 := Below.size E
    have htl := ht.1
    refine Cq.seq ?_
    refine Cq.region ?_
    refine Sq.lss .plain rfl rfl rfl ?_
    refine Sq.part (fun c29 => ?_) (fun c29 => ?_)
    · refine Sq.nil ?_
      refine Eq.next ?_
      refine Cq.seq ?_
      refine Cq.thn rfl ?_
      refine Cq.skip ?_
      refine Eq.next ?_
      refine Cq.seq ?_
      refine Cq.block ?_
      refine Cq.seq ?_
      refine Cq.region ?_
      refine Sq.move .plain rfl rfl ?_
      refine Sq.assign .plain rfl rfl ?_
      refine Sq.nil ?_
      refine Eq.next ?_
      refine Cq.region ?_
      refine Sq.move .plain rfl rfl ?_
      refine Sq.move .plain rfl rfl ?_
      refine Sq.move .plain rfl rfl ?_
      refine Sq.move .plain rfl rfl ?_
      refine Sq.val .plain rfl rfl (Still.ixS slk57 rfl rfl (by omega) (by omega)) ?_
      refine Sq.val .plain rfl rfl (Still.ixA ar62 rfl rfl (by omega) (by omega)) ?_
      refine Sq.store one3 .plain rfl rfl rfl hT (by rw [List.length_map]; omega) (fun w30 g31 hB32 => ?_)
      have hs33 := World.grownBy.size g31
      replace E := E.grown g31 (fun k hk => by injection hk with hk; subst hk; omega)
      replace hl19 := hl19.stored g31 hT (by decide)
      replace hr27 := hr27.stored g31 hT (by decide)
      replace hT := hB32
      rw [← List.map_set] at hT
      refine Sq.nil ?_
      refine Eq.end ?_
      refine Eq.next ?_
      refine Cq.region ?_
      refine Sq.add .plain rfl rfl rfl (by omega) ?_
      refine Sq.move .plain rfl rfl ?_
      refine Sq.nil ?_
      have e1 := toNat_succ hl.1
      have e2 := ht.step (by omega) (by omega)
      rw [Int.toNat_of_nonneg hq.1] at e2
      refine Eq.round _ _ ⟨l + 1, _, rfl, by omega, by rw [Nat.zero_add] at hT; exact hT, by rw [e1]; exact e2, E, hl19, hr27, rfl⟩ (by omega) (.cons rfl (.cons rfl (.cons rfl (.cons rfl (.cons rfl (.cons rfl (.cons rfl (.cons rfl (.nil)))))))))
    refine Sq.nil ?_
    refine Eq.next ?_
    refine Cq.seq ?_
    refine Cq.els rfl ?_
    refine Cq.exit ?_
    refine Eq.past ?_
    refine Eq.past ?_
    refine Eq.hit ?_
    refine Eq.next ?_
    refine Cq.seq ?_
    refine Cq.region ?_
    refine Sq.move .plain rfl rfl ?_
    refine Sq.lenInts (Own.row hl19) .plain rfl und56 rfl ?_
    refine Sq.move .plain rfl rfl ?_
    refine Sq.nil ?_
    refine Eq.next ?_
    refine Cq.block ?_
    obtain rfl : l = 6 := by omega
    refine Cq.loop (fun nn w ls => ∃ (k : Int), ∃ (xs : List Int), ls = [(3, Value.slice (some ⟨b8, 0, none⟩) a.next.length a.next.length), (4, v16), (5, Value.int .i64 q), (6, r26), (18, nx), (19, Value.int .i64 (List.length a.next : Int)), (20, Value.int .i64 q), (35, v16), (36, Value.int .i64 ((List.length (letters a.al) : Int))), (37, Value.int .i64 k)] ∧ (0 ≤ k ∧ k ≤ (letters a.al).length) ∧ Blk w b8 62 (xs.map (Value.int .i64)) ∧ TabAt a q.toNat k.toNat xs ∧ Ext w0 w ∧ Own w w9.heap.size 3 v16 ((letters a.al).map (Value.int .i64)) ∧ Ints w 3 r26 (a.next.getD q.toNat []) ∧ nn = ((letters a.al).length - k).toNat) _ _ ⟨0, _, rfl, by omega, hT, ht.at, E, hl19, hr27, rfl⟩ (.cons rfl (.cons rfl (.cons rfl (.cons rfl (.cons rfl (.cons rfl (.cons rfl (.cons rfl (.cons rfl (.cons rfl (.nil))))))))))) ?_
    rintro nn wl3 ls ⟨k, xs, rfl, hk, hT, ht, E, hl19, hr27, rfl⟩
    have hs34 := Below.size E
    have htl := ht.1
    have hlet := letters_len6 a.al
    have hlt := letters_at a.al (k := k.toNat)
    have hvr := valid_row hv (k := q.toNat) (by omega)
    refine Cq.seq ?_
    refine Cq.region ?_
    refine Sq.lss .plain rfl rfl rfl ?_
    refine Sq.part (fun c35 => ?_) (fun c35 => ?_)
    · refine Sq.nil ?_
      refine Eq.next ?_
      refine Cq.seq ?_
      refine Cq.thn rfl ?_
      refine Cq.skip ?_
      refine Eq.next ?_
      refine Cq.seq ?_
      refine Cq.block ?_
      refine Cq.seq ?_
      refine Cq.region ?_
      refine Sq.move .plain rfl rfl ?_
      refine Sq.idxInts sl56 one3 (Own.row hl19) .plain rfl rfl rfl .plain rfl rfl (by omega) (by omega) ?_
      refine Sq.assign .plain rfl rfl ?_
      refine Sq.assign .plain rfl rfl ?_
      refine Sq.nil ?_
      refine Eq.next ?_
      obtain ⟨pA, hpA⟩ := Ints.at hr27 (i := k) (by omega) (by omega)
      refine Cq.drawS 10 (fun w' => At w' 3 r26 k pA (.int .i64 ((a.next.getD q.toNat []).getD k.toNat 0))) mixed (hpA) (fun w36 e37 hS => ?_)
      clear hS
      have hs38 := Below.size e37
      replace E := E.trans e37
      replace hl19 := hl19.ext e37
      replace hr27 := hr27.ext e37
      replace hT := hT.ext e37
      replace hpA := hpA.ext e37
      refine Gq.st 0 rfl (by kernel_rfl) rfl .plain rfl (fun _ _ _ h => h) hpA (fun w' x => Still.move rfl) ?_
      refine Gq.st 1 rfl (by kernel_rfl) rfl .plain rfl (fun _ _ _ h => h) hpA (fun w' x => Still.move rfl) ?_
      refine Gq.st 2 rfl (by kernel_rfl) rfl .plain rfl (fun _ _ _ h => h) hpA (fun w' x => Still.move rfl) ?_
      refine Gq.st 3 rfl (by kernel_rfl) rfl .plain rfl (fun _ _ _ h => h) hpA (fun w' x => Still.move rfl) ?_
      refine Gq.st 4 rfl (by kernel_rfl) rfl .plain rfl (fun _ _ _ h => h) hpA (fun w' x => Still.move rfl) ?_
      refine Gq.st 5 rfl (by kernel_rfl) rfl .plain rfl (fun _ _ _ h => h) hpA (fun w' x => Still.at' sl56 hpA rfl rfl) ?_
      refine Gq.st 6 rfl (by kernel_rfl) rfl .plain rfl (fun _ _ _ h => h) hpA (fun w' x => Still.loadA one3 rfl (x).1) ?_
      refine Gq.st 7 rfl (by kernel_rfl) rfl .plain rfl (fun _ _ _ h => h) hpA (fun w' x => Still.ixS slk57 rfl rfl (by omega) (by omega)) ?_
      refine Gq.st 8 rfl (by kernel_rfl) rfl .plain rfl (fun _ _ _ h => h) hpA (fun w' x => Still.ixA ar62 rfl rfl (by have := hlt (by omega); omega) (by have := hlt (by omega); omega)) ?_
      refine Gq.one 9 rfl (by kernel_rfl) ?_
      refine Sq.store one3 .plain rfl rfl rfl hT (by rw [List.length_map]; omega) (fun w39 g40 hB41 => ?_)
      have hs42 := World.grownBy.size g40
      replace E := E.grown g40 (fun k hk => by injection hk with hk; subst hk; omega)
      replace hl19 := hl19.stored g40 hT (by decide)
      replace hr27 := hr27.stored g40 hT (by decide)
      replace hpA := hpA.stored g40 hT (by decide)
      replace hT := hB41
      rw [← List.map_set] at hT
      refine Sq.nil ?_
      refine Eq.goes (fun _ => hpA) ?_
      refine Gq.done (by kernel_rfl) ?_
      refine Eq.end ?_
      refine Eq.next ?_
      refine Cq.region ?_
      refine Sq.add .plain rfl rfl rfl (by omega) ?_
      refine Sq.move .plain rfl rfl ?_
      refine Sq.nil ?_
      have e1 := toNat_succ hk.1
      refine Eq.round _ _ ⟨k + 1, _, rfl, by omega, by rw [Nat.zero_add] at hT; exact hT, by rw [e1]; exact ht.step hvs1 (by omega) (by omega), E, hl19, hr27, rfl⟩ (by omega) (.cons rfl (.cons rfl (.cons rfl (.cons rfl (.cons rfl (.cons rfl (.cons rfl (.cons rfl (.cons rfl (.cons rfl (.nil)))))))))))
    refine Sq.nil ?_
    refine Eq.next ?_
    refine Cq.seq ?_
    refine Cq.els rfl ?_
    refine Cq.exit ?_
    refine Eq.past ?_
    refine Eq.past ?_
    refine Eq.hit ?_
    refine Eq.end ?_
    refine Eq.next ?_
    refine Cq.region ?_
    refine Sq.add .plain rfl rfl rfl (by omega) ?_
    refine Sq.move .plain rfl rfl ?_
    refine Sq.nil ?_
    have e1 := toNat_succ hq.1
    refine Eq.round _ _ ⟨q + 1, _, rfl, by omega, hT, by rw [e1]; exact ht.next hvs1 (by omega) (by omega), E, hl19, rfl⟩ (by omega) (.cons rfl (.cons rfl (.cons rfl (.cons rfl (.cons rfl (.nil))))))
  refine Sq.nil ?_
  refine Eq.next ?_
  refine Cq.seq ?_
  refine Cq.els rfl ?_
  refine Cq.exit ?_
  refine Eq.past ?_
  refine Eq.past ?_
  refine Eq.hit ?_
  refine Eq.next ?_
  refine Cq.seq ?_
  refine Cq.region ?_
  refine Sq.move .plain rfl rfl ?_
  refine Sq.assign .plain rfl rfl ?_
  refine Sq.nil ?_
  refine Eq.next ?_
  refine Cq.ret ?_
  refine Eq.ret1 rfl rfl ?_
  exact ⟨⟨_, xs, rfl, by omega, hT, ht.done (by omega)⟩, E⟩
end Go.Proofs.Ytdejmfkpohgamaa
set_option linter.unusedSimpArgs false
set_option linter.unusedVariables false
namespace Go.Proofs.Ytdejmfkpohgamaa
open Go.RowKit
section
variable {P : Program} {N : Nat} {ops : Array Oper} {Q : Exit → Act → World → Prop} {rest : List Oper} {l : Slots} {w : World}
variable {d : Nat} {ty : TypeId} {pos : String} {after : Array Edge} {g : Option (Nat × Bool)}
theorem Still.makeFunc {k : FuncId} {xs : List Operand} {vs : List Value} (hx : evs l xs = some vs) : Still P N l ⟨some d, .makeFunc (.func k) #[] xs.toArray, ty, pos, after, g⟩ (.func (.func k) #[] vs.toArray) w := fun a ha => by
  have : xs.toArray.map a.eval = vs.toArray := by rw [List.map_toArray, ha.evs hx]
  simp [execOp, Instr.makeFunc, this, ha.evs hx]
theorem Sq.makeFunc {k : FuncId} {xs : List Operand} {vs : List Value} (hg : On ops l g) (hN : Nat.blt d N = true) (hx : evs l xs = some vs) (h : Sq P N ops Q rest ((d, .func (.func k) #[] vs.toArray) :: l) w) :
    Sq P N ops Q (⟨some d, .makeFunc (.func k) #[] xs.toArray, ty, pos, after, g⟩ :: rest) l w := .val hg rfl hN (Still.makeFunc hx) h
theorem Sq.callC {f : FuncId} {fn : Func} {x : Operand} {xs : List Operand} {ats : Array TypeId} {vs cs : List Value} {R : Value → World → Prop} (hf : Fn P f fn) (hg : On ops l g) (hN : Nat.blt d N = true)
    (hc : ev l x = some (.func (.func f) #[] cs.toArray)) (hx : evs l xs = some vs) (hr : Ret P f (vs ++ cs).toArray w R) (h : ∀ v w', R v w' → Sq P N ops Q rest ((d, v) :: l) w') :
    Sq P N ops Q (⟨some d, .call ⟨.value x, xs.toArray, ats⟩, ty, pos, after, g⟩ :: rest) l w := by
  intro a ha
  refine wpList_step fun K hK => ?_
  rw [if_pos (hg.wanted ha)]
  unfold Oper.wp
  have e1 : xs.toArray.map a.eval = vs.toArray := by rw [List.map_toArray, ha.evs hx]
  have e : execOp a.eval ⟨some d, .call ⟨.value x, xs.toArray, ats⟩, ty, pos, after, g⟩ = callFunc f (vs ++ cs).toArray := by
    show (do let d ← resolve a.eval ⟨.value x, xs.toArray, ats⟩ ty; invoke d.target d.args) = _
    unfold resolve
    simp only [e1, ha.ev hc, Deferred.ofValue]
    show invoke (.fn (.func f) cs.toArray) (#[] ++ vs.toArray) = _
    simp [invoke]
  rw [e, run_callFunc hf, Oper.upon_enter]
  refine Calls.mono hr fun e w' he => ?_
  obtain ⟨v, rfl, hv⟩ := he
  exact hK _ _ (h v w' hv _ (ha.put hN))
def MapN {κ : Type} (enc : κ → Value) (w : World) (b : Nat) (xs : List κ) : Prop := ∃ es clock, w.heap[b]? = some (.map es clock) ∧ es.toList.map (fun e => (e.key, e.val)) = xs.zipIdx.map fun p => (enc p.1, Value.int .i64 (p.2 : Int))
variable {κ : Type} {enc : κ → Value} {w' : World} {b : Nat} {xs : List κ}
theorem MapN.lt (h : MapN enc w b xs) : b < w.heap.size := by
  obtain ⟨es, c, hb, _⟩ := h
  exact (Array.getElem?_eq_some_iff.1 hb).1
theorem MapN.ext (h : MapN enc w b xs) (x : Ext w w') : MapN enc w' b xs := by
  obtain ⟨es, c, hb, hx⟩ := h
  exact ⟨es, c, x.heap hb, hx⟩
theorem MapN.grown {r : Option Nat} (h : MapN enc w b xs) (hg : w.grownBy w' r) (hr : r ≠ some b) : MapN enc w' b xs := by
  obtain ⟨es, c, hb, hx⟩ := h
  exact ⟨es, c, by rw [hg.block b (Array.getElem?_eq_some_iff.1 hb).1 (fun e => hr e.symm)]; exact hb, hx⟩
theorem MapN.stored {gb : Nat} {t : TypeId} {cs : List Value} (h : MapN enc w b xs) (hg : w.grownBy w' (some gb)) (hb : Blk w gb t cs) : MapN enc w' b xs := by
  refine h.grown hg (fun e => ?_)
  injection e with e
  subst e
  obtain ⟨es, c, hb', _⟩ := h
  simp only [Blk] at hb
  rw [hb] at hb'
  cases hb'
theorem MapN.owned {B : Nat} {t : TypeId} {u : Value} {us : List Value} (h : MapN enc w b xs) (ho : Own w B t u us) (hg : w.grownBy w' u.ownBlock) : MapN enc w' b xs := by
  rcases ho.cases with ⟨rfl, rfl⟩ | ⟨gb, cap, cs, rfl, hg', hb, _⟩
  · exact h.ext (Ext.of_grown hg)
  · exact h.stored (gb := gb) hg hb
theorem Blk.mapped {bb : Nat} {t : TypeId} {cs : List Value} (h : Blk w bb t cs) (hm : MapN enc w b xs) (hg : w.grownBy w' (some b)) : Blk w' bb t cs := by
  refine h.grown hg (fun e => ?_)
  injection e with e
  subst e
  obtain ⟨es, c, hb', _⟩ := hm
  simp only [Blk] at h
  rw [h] at hb'
  cases hb'
theorem Row.mapped {e : TypeId} {v : Value} {vs : List Value} (h : Row w e v vs) (hm : MapN enc w b xs) (hg : w.grownBy w' (some b)) : Row w' e v vs := by
  rcases h with h | ⟨b', o, c, cur, fr, hv, hb, hx⟩
  · exact .inl h
  · refine .inr ⟨b', o, c, cur, fr, hv, ?_, hx⟩
    rw [hg.block b' (lt_of_block hb) (fun h => ?_)]
    · exact hb
    · injection h with h
      subst h
      obtain ⟨es, cc, hb', _⟩ := hm
      rw [hb] at hb'
      cases hb'
theorem Own.mapped {B : Nat} {e : TypeId} {v : Value} {vs : List Value} (h : Own w B e v vs) (hm : MapN enc w b xs) (hg : w.grownBy w' (some b)) : Own w' B e v vs := by
  rcases h.cases with ⟨rfl, rfl⟩ | ⟨g', cap, cs, rfl, hg', hb, h3, h4, h5, h6⟩
  · exact Own.nil _ _ _
  · exact Own.mk hg' (hb.mapped hm hg) h3 h4 h5 h6
theorem OwnRows.mapped {B U : Nat} {e e' : TypeId} {v : Value} {xss : List (List Int)} (h : OwnRows w B U e e' v xss) (hm : MapN enc w b xs) (hg : w.grownBy w' (some b)) : OwnRows w' B U e e' v xss := by
  obtain ⟨rs, h1, h2, h3, h4⟩ := h
  exact ⟨rs, h1.mapped hm hg, h2, fun i r hr => ⟨(h3 i r hr).1.mapped hm hg, (h3 i r hr).2⟩, h4⟩
theorem Ext.mapped {w1 : World} (h : Ext w1 w) (hg : w.grownBy w' (some b)) (hB : w1.heap.size ≤ b) : Ext w1 w' := h.grown hg fun k hk => by injection hk with hk; omega
theorem Sq.makeMap {t : TypeId} (enc : κ → Value) (hg : On ops l g) (hN : Nat.blt d N = true) (h : ∀ b w', Ext w w' → MapN enc w' b ([] : List κ) → w.heap.size ≤ b → Sq P N ops Q rest ((d, .map (some b)) :: l) w') :
    Sq P N ops Q (⟨some d, .makeMap t none, ty, pos, after, g⟩ :: rest) l w :=
  .val (w' := w.alloc (.map #[] 0)) hg rfl hN (fun a ha => by simp [execOp, Instr.makeMap, run_makeMap]) (h _ _ (Ext.alloc _ _) ⟨#[], 0, heap_alloc_new w _, rfl⟩ (Nat.le_refl _))
structure KeyT [DecidableEq κ] (P : Program) (t : TypeId) (enc : κ → Value) : Prop where
  types : ∃ kt et kd, P.underlying t = some (.map kt et) ∧ P.underlying kt = some kd ∧ (∀ x y, Instr.sameNow kd (enc x) (enc y) = some (decide (x = y))) ∧ (∀ w, (zeroValue et).run P w = .ok (.int .i64 0) w) ∧ ∀ x, MapKept.IsKey kd (enc x)
variable [DecidableEq κ]
theorem findNow_num {kd : TypeDesc} (hk : ∀ x y, Instr.sameNow kd (enc x) (enc y) = some (decide (x = y))) (k : κ) : ∀ (es : List MapEntry) (xs : List κ) (j s : Nat), es.map (fun e => (e.key, e.val)) = (xs.zipIdx s).map (fun p => (enc p.1, Value.int .i64 (p.2 : Int))) →
    Instr.findNow kd (enc k) es j = some (if k ∈ xs then some (j + xs.idxOf k, .int .i64 ((s + xs.idxOf k : Nat) : Int)) else none)
  | [], xs, j, s, h => by
    have : xs = [] := by cases xs with | nil => rfl | cons x r => simp at h
    subst this
    simp [Instr.findNow]
  | e :: es, xs, j, s, h => by
    cases xs with
    | nil => simp at h
    | cons x r =>
      simp only [List.map_cons, List.zipIdx_cons, List.cons.injEq, Prod.mk.injEq] at h
      obtain ⟨⟨h1, h2⟩, h3⟩ := h
      have ih := findNow_num hk k es r (j + 1) (s + 1) h3
      unfold Instr.findNow
      rw [h1, hk]
      by_cases hx : k = x
      · subst hx
        simp [h2]
      · have hx' : (x == k) = false := by simpa using fun h => hx h.symm
        rw [decide_eq_false hx]
        show Instr.findNow kd (enc k) es (j + 1) = _
        rw [ih]
        by_cases hm : k ∈ r
        · rw [if_pos hm, if_pos (List.mem_cons_of_mem _ hm), List.idxOf_cons, hx']
          simp only [cond_false]
          congr 3
          · omega
          · congr 1; omega
        · rw [if_neg hm, if_neg (by simp [hx, hm])]
theorem findKey_num {kt : TypeId} {kd : TypeDesc} (hd : P.underlying kt = some kd) (hk : ∀ x y, Instr.sameNow kd (enc x) (enc y) = some (decide (x = y))) (k : κ) {es : Array MapEntry} (h : es.toList.map (fun e => (e.key, e.val)) = xs.zipIdx.map (fun p => (enc p.1, Value.int .i64 (p.2 : Int)))) :
    (Instr.findKey kt (enc k) es.toList).run P w = .ok (if k ∈ xs then some (xs.idxOf k, .int .i64 (xs.idxOf k : Int)) else none) w := by
  have := findNow_num hk k es.toList xs 0 0 h
  simp only [Nat.zero_add] at this
  simp [Instr.findKey, run_underlying hd, this]
theorem Still.lookup {t : TypeId} {m x : Operand} {k : κ} (ht : KeyT P t enc) (hm : MapN enc w b xs) (hx : ev l m = some (.map (some b))) (hk : ev l x = some (enc k)) :
    Still P N l ⟨some d, .lookup t m x true, ty, pos, after, g⟩ (.tuple #[.int .i64 (if k ∈ xs then (xs.idxOf k : Int) else 0), .bool (decide (k ∈ xs))]) w := fun a ha => by
  obtain ⟨kt, et, kd, h1, h2, h3, h4, h5⟩ := ht.types
  obtain ⟨es, c, hb, hes⟩ := hm
  have hf := findKey_num (P := P) (w := w) h2 h3 k hes
  by_cases hin : k ∈ xs
  · rw [if_pos hin] at hf
    simp [execOp, Instr.lookup, ha.ev hx, ha.ev hk, run_underlying h1, MapKept.run_getObj_map hb, MapKept.run_checkKey h2 (h5 k), hf, hin, Result.andThen]
  · rw [if_neg hin] at hf
    simp [execOp, Instr.lookup, ha.ev hx, ha.ev hk, run_underlying h1, MapKept.run_getObj_map hb, MapKept.run_checkKey h2 (h5 k), hf, hin, h4, Result.andThen]
theorem Sq.lookup {t : TypeId} {m x : Operand} {k : κ} (ht : KeyT P t enc) (hm : MapN enc w b xs) (hg : On ops l g) (hN : Nat.blt d N = true) (hx : ev l m = some (.map (some b))) (hk : ev l x = some (enc k))
    (h : Sq P N ops Q rest ((d, .tuple #[.int .i64 (if k ∈ xs then (xs.idxOf k : Int) else 0), .bool (decide (k ∈ xs))]) :: l) w) : Sq P N ops Q (⟨some d, .lookup t m x true, ty, pos, after, g⟩ :: rest) l w := .val hg rfl hN (Still.lookup ht hm hx hk) h
theorem Sq.mapUpdate {t : TypeId} {m x y : Operand} {k : κ} {n : Int} (ht : KeyT P t enc) (hm : MapN enc w b xs) (hg : On ops l g) (hx : ev l m = some (.map (some b))) (hk : ev l x = some (enc k)) (hy : ev l y = some (.int .i64 n)) (hn : n = xs.length) (hin : k ∉ xs)
    (h : ∀ w', w.grownBy w' (some b) → MapN enc w' b (xs ++ [k]) → Sq P N ops Q rest l w') : Sq P N ops Q (⟨none, .mapUpdate t m x y, ty, pos, after, g⟩ :: rest) l w := by
  obtain ⟨kt, et, kd, h1, h2, h3, h4, h5⟩ := ht.types
  obtain ⟨es, c, hb, hes⟩ := hm
  have hf := findKey_num (P := P) (w := w) h2 h3 k hes
  rw [if_neg hin] at hf
  have hs := MapKept.heap_set (o' := .map (es.push { key := enc k, val := .int .i64 n, born := c }) (c + 1)) hb
  refine .unit (w' := { w with heap := w.heap.setIfInBounds b (.map (es.push { key := enc k, val := .int .i64 n, born := c }) (c + 1)) }) hg rfl (fun a ha => ?_) (h _ ⟨rfl, rfl, rfl, by simp, fun j _ hne => hs.2 j (fun e => hne (congrArg some e))⟩ ⟨_, _, hs.1, ?_⟩)
  · simp [execOp, Instr.mapUpdate, ha.ev hx, ha.ev hk, ha.ev hy, run_underlying h1, MapKept.run_getObj_map hb, MapKept.run_checkKey h2 (h5 k), hf, MapKept.run_setObj_map _ hb, Result.andThen]
  · rw [Array.toList_push, List.map_append, hes, List.zipIdx_append, List.map_append, hn]
    simp
def Apart (v u : Value) : Prop := ∀ k, v.ownBlock = some k → u.ownBlock ≠ some k
theorem Apart.symm {v u : Value} (h : Apart v u) : Apart u v := fun k hk hc => h k hc hk
theorem Apart.nil (u : Value) : Apart (.slice none 0 0) u := fun k hk => by cases hk
theorem Apart.grow {v v' u : Value} {B : Nat} {e : TypeId} {us : List Value} (h : Apart v u) (ho : Own w B e u us) (hf : ∀ k, v'.ownBlock = some k → v.ownBlock = some k ∨ w.heap.size ≤ k) : Apart v' u := fun k hk hc => by
  rcases hf k hk with h1 | h1
  · exact h k h1 hc
  · have := (ho.lt k hc).2; omega
theorem Own.other {B : Nat} {e : TypeId} {v u : Value} {vs : List Value} (h : Own w B e v vs) (hg : w.grownBy w' u.ownBlock) (ha : Apart u v) : Own w' B e v vs := h.grown hg fun k hk hc => ha k hc hk
theorem fresh_of {B n m size c : Nat} {t e : TypeId} {i : TypeInfo} {z : Value} {v v' : Value} {xs news : List Value} {ad : Addr} {w'' : World} (ht : P.underlying t = some (.slice e)) (hi : P.info? e = some i) (hz : i.zero = some z) (hsize : i.size = size)
    (hown : w.ownsRow B e size v n xs) (hl : news.length = m * size) (hnews : ∀ j u, news[j]? = some u → w.cell? (ad.add j) = some u) (h1 : ∀ u ∈ news, u.oneCell' = true) (h63 : n + m ≤ maxLen) (hbytes : (n + m) * i.bytes ≤ 140737488355328) (hm : 0 < m)
    (hr : (Builtin.append_ #[t, t] ty #[v, .slice (some ad) m c]).run P w = .ok v' w'') : ∀ k, v'.ownBlock = some k → v.ownBlock = some k ∨ w.heap.size ≤ k := by
  subst hsize
  have h63' : n + m ≤ 9223372036854775807 := by simp only [maxLen] at h63; omega
  intro k hk
  rcases hown.2 with ⟨rfl, rfl⟩ | ⟨gb, cap, cur, rfl, hbg, hgg, hnc, hcm, hcs, htake⟩
  · have e2 := run_append_nil (P := P) w t ty e i z ht hi hz ad m c news hl hnews (by omega) (by omega) (Nat.le_trans (by simpa using hbytes) (by decide : 140737488355328 ≤ 281474976710656))
    rw [e2] at hr
    injection hr with hv _
    subst hv
    simp [Value.ownBlock] at hk
    omega
  · by_cases hroom : n + m ≤ cap
    · have hfit : n * i.size + news.length ≤ cur.size := by rw [hl, hcs, ← Nat.add_mul]; exact Nat.mul_le_mul_right _ hroom
      have e2 := run_append_room (P := P) w t ty e i ht hi gb n cap cur hgg ad m c news hl hnews h1 hroom hfit
      rw [e2] at hr
      injection hr with hv _
      subst hv
      exact .inl hk
    · have holds : ∀ j u, xs[j]? = some u → w.cell? ((⟨gb, 0, none⟩ : Addr).add j) = some u := hown.cells (g := gb) rfl
      have e2 := run_append_grow (P := P) w t ty e i z ht hi hz ⟨gb, 0, none⟩ n cap xs hown.1 holds ad m c news hl hnews (by omega) (by omega) (growslice_fits (by omega) hbytes)
      rw [e2] at hr
      injection hr with hv _
      subst hv
      simp [Value.ownBlock] at hk
      omega
end
end Go.Proofs.Ytdejmfkpohgamaa
set_option linter.unusedSimpArgs false
set_option linter.unusedVariables false
namespace Go.Proofs.Ytdejmfkpohgamaa
open Go.RowKit
structure SlW (P : Program) (t e : TypeId) (z : Value) (n : Nat) : Prop where
  und : P.underlying t = some (.slice e)
  info : ∃ i, P.info? e = some i ∧ i.zero = some z ∧ i.size = n ∧ i.bytes ≤ 1024
  cells : z.cells.size = n
  pos : 0 < n
theorem SlW.elem {P : Program} {t e : TypeId} {z : Value} {n : Nat} (h : SlW P t e z n) : P.elem t = e := by simp [Program.elem, h.und]
theorem SlW.sizeOf {P : Program} {t e : TypeId} {z : Value} {n : Nat} (h : SlW P t e z n) (w : World) : (sizeOf e).run P w = .ok n w := by
  obtain ⟨i, hi, _, hs, _⟩ := h.info
  simp [Go.sizeOf, typeInfo, hi, hs]
theorem SlW.of {P : Program} {t e : TypeId} {z : Value} (h : SlT P t e z) : SlW P t e z 1 := by
  obtain ⟨i, h1, h2, h3, h4⟩ := h.info
  refine ⟨h.und, ⟨i, h1, h2, h3, by omega⟩, ?_, by decide⟩
  have := h.one
  cases z <;> simp_all [Value.cells, Value.oneCell']
def Wid (w : World) (B : Nat) (e : TypeId) (n : Nat) (v : Value) (rows : List (List Value)) : Prop :=
  (∀ r ∈ rows, r.length = n ∧ ∀ u ∈ r, u.oneCell' = true) ∧ w.ownsRow B e n v rows.length rows.flatten
theorem flat_len {n : Nat} : ∀ {rows : List (List Value)}, (∀ r ∈ rows, r.length = n) → rows.flatten.length = rows.length * n
  | [], _ => by simp
  | r :: rows, h => by
    rw [List.flatten_cons, List.length_append, h r (by simp), flat_len (fun q hq => h q (by simp [hq])), List.length_cons, Nat.add_mul]
    omega
theorem flat_at {n : Nat} : ∀ {rows : List (List Value)} {i j : Nat}, (∀ r ∈ rows, r.length = n) → i < rows.length → j < n → rows.flatten[i * n + j]? = (rows.getD i [])[j]?
  | r :: rows, 0, j, h, _, hj => by
    rw [List.flatten_cons, Nat.zero_mul, Nat.zero_add, List.getElem?_append_left (by rw [h r (by simp)]; exact hj)]; rfl
  | r :: rows, i + 1, j, h, hi, hj => by
    have hr := h r (by simp)
    rw [List.flatten_cons, List.getElem?_append_right (by rw [hr, Nat.add_mul]; omega), hr, show (i + 1) * n + j - n = i * n + j by rw [Nat.add_mul]; omega]
    exact flat_at (fun q hq => h q (by simp [hq])) (by simpa using hi) hj
section
variable {w w' : World} {B n : Nat} {e : TypeId} {v : Value} {rows : List (List Value)}
theorem Wid.nil (w : World) (B : Nat) (e : TypeId) (n : Nat) : Wid w B e n (.slice none 0 0) [] := ⟨by simp, World.ownsRow_nil w B e n⟩
theorem Wid.cases (h : Wid w B e n v rows) : (v = .slice none 0 0 ∧ rows = []) ∨ ∃ g cap cs, v = .slice (some ⟨g, 0, none⟩) rows.length cap ∧ B ≤ g ∧ Blk w g e cs ∧ rows.length ≤ cap ∧ cap ≤ maxLen ∧ cs.length = cap * n ∧ cs.take (rows.length * n) = rows.flatten := by
  rcases h.2.2 with ⟨h1, h2⟩ | ⟨g, cap, cur, h1, h2, h3, h4, h5, h6, h7⟩
  · exact .inl ⟨h1, List.eq_nil_of_length_eq_zero h2⟩
  · exact .inr ⟨g, cap, cur.toList, h1, h2, by simpa [Blk] using h3, h4, h5, by simpa using h6, h7⟩
theorem Wid.mk' {g cap : Nat} {cs : List Value} (hr : ∀ r ∈ rows, r.length = n ∧ ∀ u ∈ r, u.oneCell' = true) (h2 : B ≤ g) (h3 : Blk w g e cs) (h4 : rows.length ≤ cap) (h5 : cap ≤ maxLen) (h6 : cs.length = cap * n) (h7 : cs.take (rows.length * n) = rows.flatten) : Wid w B e n (.slice (some ⟨g, 0, none⟩) rows.length cap) rows :=
  ⟨hr, flat_len (fun r h => (hr r h).1), .inr ⟨g, cap, cs.toArray, rfl, h2, h3, h4, h5, by simpa using h6, by simpa using h7⟩⟩
theorem Wid.ext (h : Wid w B e n v rows) (x : Ext w w') : Wid w' B e n v rows := by
  rcases h.cases with ⟨rfl, rfl⟩ | ⟨g, cap, cs, rfl, h2, h3, h4, h5, h6, h7⟩
  · exact Wid.nil _ _ _ _
  · exact Wid.mk' h.1 h2 (h3.ext x) h4 h5 h6 h7
theorem Wid.mono {B' : Nat} (h : Wid w B e n v rows) (hB : B' ≤ B) : Wid w B' e n v rows := by
  rcases h.cases with ⟨rfl, rfl⟩ | ⟨g, cap, cs, rfl, h2, h3, h4, h5, h6, h7⟩
  · exact Wid.nil _ _ _ _
  · exact Wid.mk' h.1 (Nat.le_trans hB h2) h3 h4 h5 h6 h7
theorem Wid.lt (h : Wid w B e n v rows) : ∀ k, v.ownBlock = some k → B ≤ k ∧ k < w.heap.size := by
  rcases h.cases with ⟨rfl, rfl⟩ | ⟨g, cap, cs, rfl, h2, h3, h4, h5, h6, h7⟩
  · intro k hk; cases hk
  · intro k hk
    simp [Value.ownBlock] at hk
    subst hk
    exact ⟨h2, h3.lt⟩
theorem Wid.grown {r : Option Nat} (h : Wid w B e n v rows) (hg : w.grownBy w' r) (hne : ∀ k, v.ownBlock = some k → r ≠ some k) : Wid w' B e n v rows := by
  rcases h.cases with ⟨rfl, rfl⟩ | ⟨g, cap, cs, rfl, h2, h3, h4, h5, h6, h7⟩
  · exact Wid.nil _ _ _ _
  · exact Wid.mk' h.1 h2 (h3.grown hg (hne g rfl)) h4 h5 h6 h7
theorem Wid.stored {g : Nat} {t : TypeId} {cs : List Value} (h : Wid w B e n v rows) (hg : w.grownBy w' (some g)) (hb : Blk w g t cs) (hne : t ≠ e) : Wid w' B e n v rows := by
  refine h.grown hg fun k hk hc => ?_
  injection hc with hc
  subst hc
  rcases h.cases with ⟨rfl, rfl⟩ | ⟨g', cap, cs', rfl, h2, h3, _⟩
  · cases hk
  · simp [Value.ownBlock] at hk
    subst hk
    exact hb.ne h3 hne rfl
theorem Wid.owned {B' : Nat} {t : TypeId} {u : Value} {us : List Value} (h : Wid w B e n v rows) (ho : Own w B' t u us) (hg : w.grownBy w' u.ownBlock) (hne : t ≠ e) : Wid w' B e n v rows := by
  rcases ho.cases with ⟨rfl, rfl⟩ | ⟨g, cap, cs, rfl, hg', hb, _⟩
  · exact h.ext (Ext.of_grown hg)
  · exact h.stored (g := g) hg hb hne
theorem Wid.mapped {κ : Type} {enc : κ → Value} {b : Nat} {xs : List κ} (h : Wid w B e n v rows) (hm : MapN enc w b xs) (hg : w.grownBy w' (some b)) : Wid w' B e n v rows := by
  rcases h.cases with ⟨rfl, rfl⟩ | ⟨g, cap, cs, rfl, h2, h3, h4, h5, h6, h7⟩
  · exact Wid.nil _ _ _ _
  · exact Wid.mk' h.1 h2 (h3.mapped hm hg) h4 h5 h6 h7
variable (ho : Wid w B e n v rows) (hg : w.grownBy w' v.ownBlock)
theorem Row.wid {e' : TypeId} {u : Value} {us : List Value} (h : Row w e' u us) (ho : Wid w B e n v rows) (hg : w.grownBy w' v.ownBlock) (hne : e ≠ e') : Row w' e' u us := by
  rcases ho.cases with ⟨rfl, rfl⟩ | ⟨g, cap, cs, rfl, h2, hb, _⟩
  · exact h.ext (Ext.of_grown hg)
  · exact h.grown (g := g) hg hb hne
theorem Own.wid {B' : Nat} {e' : TypeId} {u : Value} {us : List Value} (h : Own w B' e' u us) (ho : Wid w B e n v rows) (hg : w.grownBy w' v.ownBlock) (hne : e ≠ e') : Own w' B' e' u us := by
  rcases ho.cases with ⟨rfl, rfl⟩ | ⟨g, cap, cs, rfl, h2, hb, _⟩
  · exact h.ext (Ext.of_grown hg)
  · exact h.stored (g := g) hg hb hne
theorem OwnRows.wid {B' U : Nat} {e' e'' : TypeId} {u : Value} {xss : List (List Int)} (h : OwnRows w B' U e' e'' u xss) (ho : Wid w B e n v rows) (hg : w.grownBy w' v.ownBlock) (hne : e ≠ e') (hne' : e ≠ e'') : OwnRows w' B' U e' e'' u xss := by
  rcases ho.cases with ⟨rfl, rfl⟩ | ⟨g, cap, cs, rfl, h2, hb, _⟩
  · exact h.ext (Ext.of_grown hg)
  · exact h.stored (g := g) hg hb hne hne'
theorem Blk.wid {b : Nat} {e' : TypeId} {cs : List Value} (h : Blk w b e' cs) (ho : Wid w B e n v rows) (hg : w.grownBy w' v.ownBlock) (hne : e ≠ e') : Blk w' b e' cs := by
  rcases ho.cases with ⟨rfl, rfl⟩ | ⟨g, cap, cs', rfl, h2, hb, _⟩
  · exact h.ext (Ext.of_grown hg)
  · exact h.grown hg (fun e2 => hb.ne h hne (by simpa [Value.ownBlock] using e2))
theorem Wid.wid {B' n' : Nat} {e' : TypeId} {u : Value} {rows' : List (List Value)} (h : Wid w B' e' n' u rows') (ho : Wid w B e n v rows) (hg : w.grownBy w' v.ownBlock) (hne : e ≠ e') : Wid w' B' e' n' u rows' := by
  rcases ho.cases with ⟨rfl, rfl⟩ | ⟨g, cap, cs, rfl, h2, hb, _⟩
  · exact h.ext (Ext.of_grown hg)
  · exact h.stored (g := g) hg hb hne
theorem MapN.wid {κ : Type} {enc : κ → Value} {b : Nat} {xs : List κ} (h : MapN enc w b xs) (ho : Wid w B e n v rows) (hg : w.grownBy w' v.ownBlock) : MapN enc w' b xs := by
  rcases ho.cases with ⟨rfl, rfl⟩ | ⟨g, cap, cs, rfl, h2, hb, _⟩
  · exact h.ext (Ext.of_grown hg)
  · exact h.stored (gb := g) hg hb
theorem Ext.wid {a : World} (h : Ext a w) (ho : Wid w B e n v rows) (hg : w.grownBy w' v.ownBlock) (hB : a.heap.size ≤ B) : Ext a w' := h.grown hg fun k hk => Nat.le_trans hB (ho.lt k hk).1
theorem Wid.at (h : Wid w B e n v rows) {i : Int} (h0 : 0 ≤ i) (h1 : i < rows.length) : ∃ g c, v = .slice (some ⟨g, 0, none⟩) rows.length c ∧ B ≤ g ∧ g < w.heap.size ∧ ∀ j, j < n → w.cell? ⟨g, i.toNat * n + j, none⟩ = (rows.getD i.toNat [])[j]? := by
  rcases h.cases with ⟨rfl, rfl⟩ | ⟨g, cap, cs, rfl, h2, h3, h4, h5, h6, h7⟩
  · simp at h1; omega
  · refine ⟨g, cap, rfl, h2, h3.lt, fun j hj => ?_⟩
    have hlt : i.toNat < rows.length := by omega
    rw [h3.cell, ← flat_at (fun r hr => (h.1 r hr).1) hlt hj, ← h7, List.getElem?_take, if_pos]
    have : (i.toNat + 1) * n ≤ rows.length * n := Nat.mul_le_mul_right _ hlt
    rw [Nat.add_mul] at this
    omega
end
section
variable {P : Program} {N : Nat} {ops : Array Oper} {Q : Exit → Act → World → Prop} {rest : List Oper} {l : Slots} {w : World}
variable {d : Nat} {ty : TypeId} {pos : String} {after : Array Edge} {g : Option (Nat × Bool)}
theorem Still.ixW {t e : TypeId} {z : Value} {n gb len c : Nat} {x ix : Operand} {k : IntKind} {i : Int} (hs : SlW P t e z n) (hx : ev l x = some (.slice (some ⟨gb, 0, none⟩) len c)) (hix : ev l ix = some (.int k i)) (hi : 0 ≤ i ∧ i < (len : Int)) :
    Still P N l ⟨some d, .indexAddr t x ix, ty, pos, after, g⟩ (.pointer (some ⟨gb, i.toNat * n, none⟩)) w := fun a ha => by
  have := run_indexAt_slice (P := P) (w := w) t ⟨gb, 0, none⟩ len c k i (by rw [hs.elem]; exact hs.und)
  rw [hs.elem, hs.sizeOf] at this
  simp [execOp, ha.ev hx, ha.ev hix, this, hi, addr_add]
theorem fold_cells (off : Nat) : ∀ (vs : List Value) (j : Nat) (zs : Array Value), off + j + vs.length ≤ zs.size →
    ((vs.zipIdx j).foldl (fun (cs : Array Value) (p : Value × Nat) => cs.setIfInBounds (off + p.2) p.1) zs).toList = zs.toList.take (off + j) ++ vs ++ zs.toList.drop (off + j + vs.length)
  | [], j, zs, h => by simp
  | v :: vs, j, zs, h => by
    simp only [List.length_cons] at h
    rw [List.zipIdx_cons, List.foldl_cons, fold_cells off vs (j + 1) _ (by simp; omega)]
    have hlt : off + j < zs.toList.length := by simp; omega
    have h3 : (zs.toList.set (off + j) v).take (off + (j + 1)) = zs.toList.take (off + j) ++ [v] := by
      rw [show off + (j + 1) = (off + j) + 1 by omega, List.take_succ_eq_append_getElem (by simpa using hlt)]
      simp [List.take_set_of_le (Nat.le_refl (off + j))]
    have h4 : (zs.toList.set (off + j) v).drop (off + (j + 1) + vs.length) = zs.toList.drop (off + j + (vs.length + 1)) := by
      rw [List.drop_set_of_lt (by omega)]
      congr 1
      omega
    simp only [Array.toList_setIfInBounds, h3, h4, List.length_cons]
    simp
theorem fill_wide {n : Nat} : ∀ (rows : List (List Value)) (k : Nat) (zs : Array Value), (∀ r ∈ rows, r.length = n) → (k + rows.length) * n ≤ zs.size →
    ∃ cs, Instr.fill (fun i => some (i * n, n)) zs ((List.range' k rows.length).zip (rows.map fun r => Value.agg r.toArray)) = some cs ∧ cs.toList = zs.toList.take (k * n) ++ rows.flatten ++ zs.toList.drop ((k + rows.length) * n)
  | [], k, zs, _, _ => ⟨zs, by simp [Instr.fill], by simp⟩
  | r :: rows, k, zs, h, hk => by
    have hr := h r (by simp)
    simp only [List.length_cons] at hk
    have e1 : (k + (rows.length + 1)) * n = k * n + n + rows.length * n := by rw [Nat.add_mul, Nat.add_mul]; omega
    have e2 : (k + 1) * n = k * n + n := by rw [Nat.add_mul]; omega
    have hf := fold_cells (k * n) r 0 zs (by omega)
    have hsz : ((r.zipIdx 0).foldl (fun (cs : Array Value) (p : Value × Nat) => cs.setIfInBounds (k * n + p.2) p.1) zs).size = zs.size := by
      rw [← Array.length_toList, hf]; simp; omega
    obtain ⟨cs, f1, f2⟩ := fill_wide rows (k + 1) _ (fun q hq => h q (by simp [hq])) (by rw [hsz, Nat.add_mul, e2]; omega)
    refine ⟨cs, ?_, ?_⟩
    · have h1 : ¬ zs.size < k * n + r.length := by omega
      simp only [List.length_cons, List.range'_succ, List.map_cons, List.zip_cons_cons, Instr.fill, Value.cells]
      simp only [List.size_toArray, hr]
      rw [if_neg (by simp; omega)]
      have e3 : (r.toArray.zipIdx.foldl (fun (cs : Array Value) (p : Value × Nat) => cs.setIfInBounds (k * n + p.2) p.1) zs) = ((r.zipIdx 0).foldl (fun (cs : Array Value) (p : Value × Nat) => cs.setIfInBounds (k * n + p.2) p.1) zs) := by simp
      exact e3 ▸ f1
    · rw [f2, hf]
      simp only [Nat.add_zero, List.flatten_cons, List.length_cons]
      have e4 : (k + 1 + rows.length) * n = k * n + n + rows.length * n := by rw [Nat.add_mul, e2]
      have t1 : (zs.toList.take (k * n) ++ r ++ zs.toList.drop (k * n + r.length)).take ((k + 1) * n) = zs.toList.take (k * n) ++ r := by
        rw [e2, List.take_append_of_le_length (by simp; omega), List.take_of_length_le (by simp; omega)]
      have t2 : (zs.toList.take (k * n) ++ r ++ zs.toList.drop (k * n + r.length)).drop ((k + 1 + rows.length) * n) = zs.toList.drop ((k + (rows.length + 1)) * n) := by
        rw [e4, e1, List.drop_append, List.drop_of_length_le (by simp; omega), List.nil_append, List.drop_drop]
        congr 1
        simp
        omega
      rw [t1, t2]
      simp
theorem Sq.litW {t e : TypeId} {z : Value} {n m : Nat} {parts : List (Nat × Operand)} {rows : List (List Value)} (hs : SlW P t e z n) (hp : parts.map (·.1) = List.range m) (hm : rows.length = m) (hn : m * n ≤ 1000) (hg : On ops l g) (hN : Nat.blt d N = true)
    (hx : evs l (parts.map (·.2)) = some (rows.map fun r => Value.agg r.toArray)) (h1 : ∀ r ∈ rows, r.length = n ∧ ∀ u ∈ r, u.oneCell' = true)
    (h : ∀ b w', Ext w w' → w.heap.size ≤ b → (∀ B, B ≤ w.heap.size → Wid w' B e n (.slice (some ⟨b, 0, none⟩) m m) rows) → Blk w' b e rows.flatten → Sq P N ops Q rest ((d, .slice (some ⟨b, 0, none⟩) m m) :: l) w') :
    Sq P N ops Q (⟨some d, .buildSlice t m parts.toArray, ty, pos, after, g⟩ :: rest) l w := by
  obtain ⟨i, hi, hz, hsz, hby⟩ := hs.info
  have hfl := flat_len (fun r hr => (h1 r hr).1)
  have hbn := Blk.new w e rows.flatten
  refine .val (w' := w.alloc (.cells rows.flatten.toArray e)) hg rfl hN (fun a ha => ?_) (h _ _ (Ext.alloc _ _) (Nat.le_refl _) (fun B hB => ?_) hbn)
  · obtain ⟨cs, f1, f2⟩ := fill_wide (n := n) rows 0 ((Array.range (m * n)).map (fun j => z.cells[j % z.cells.size]!)) (fun r hr => (h1 r hr).1) (by simp [hm])
    have f3 : cs = rows.flatten.toArray := by
      have : cs.toList = rows.flatten := by
        rw [f2, hm]
        simp
      rw [← this]
    subst f3
    have e1 : (parts.toArray.map fun (i, x) => (i, a.eval x)) = ((List.range m).zip (rows.map fun r => Value.agg r.toArray)).toArray := by
      rw [← hp, ← ha.evs hx]
      simp [List.zip_map', List.map_map]
    have hlim : ¬ 16777216 < m * n := by omega
    rw [List.range_eq_range'] at e1
    rw [hm] at f1
    simp only [execOp]
    rw [e1]
    by_cases h0 : m * n = 0
    · have hm0 : m = 0 := by
        rcases Nat.mul_eq_zero.1 h0 with h | h
        · exact h
        · have := hs.pos; omega
      subst hm0
      obtain rfl : rows = [] := List.eq_nil_of_length_eq_zero hm
      have hr0 : Array.map (fun j : Nat => z.cells[j % z.cells.size]!) (Array.range 0) = #[] := by apply Array.ext <;> simp
      have hr1 : Array.map (fun _ : Nat => (default : Value)) (Array.range 0) = #[] := by apply Array.ext <;> simp
      simp [Instr.buildSlice, run_underlying hs.und, hs.sizeOf, newRow, Instr.fill, hr0, hr1]
    · simp [Instr.buildSlice, run_underlying hs.und, hs.sizeOf, newRow, zeroValue, typeInfo, hi, hz, hlim, h0, f1]
  · have := Wid.mk' (w := w.alloc (.cells rows.flatten.toArray e)) (B := B) (e := e) (n := n) (rows := rows) (g := w.heap.size) (cap := m) (cs := rows.flatten) h1 hB hbn (by omega) (by unfold maxLen; have := Nat.le_mul_of_pos_right m hs.pos; omega) (by rw [hfl, hm]) (by rw [List.take_of_length_le (by rw [hfl]; exact Nat.le_refl _)])
    rw [hm] at this
    exact this
theorem Sq.appS {t e : TypeId} {z : Value} {n b c : Nat} {s x : Operand} {v : Value} {r : List Value} {rows : List (List Value)} {B : Nat}
    (hs : SlW P t e z n) (ho : Wid w B e n v rows) (hB : B ≤ w.heap.size) (hlen : rows.length < 1048576) (hb : Blk w b e r) (hr : r.length = n ∧ ∀ u ∈ r, u.oneCell' = true) (hg : On ops l g) (hN : Nat.blt d N = true) (hsv : ev l s = some v) (hxv : ev l x = some (.slice (some ⟨b, 0, none⟩) 1 c))
    (h : ∀ v' w', Wid w' B e n v' (rows ++ [r]) → w.grownBy w' v.ownBlock → (∀ k, v'.ownBlock = some k → v.ownBlock = some k ∨ w.heap.size ≤ k) → v' ≠ .slice none 0 0 → Sq P N ops Q rest ((d, v') :: l) w') :
    Sq P N ops Q (⟨some d, .call ⟨.builtin .append, #[s, x], #[t, t]⟩, ty, pos, after, g⟩ :: rest) l w := by
  obtain ⟨i, hi, hz, hsz, hby⟩ := hs.info
  have hnews : ∀ j u, r[j]? = some u → w.cell? ((⟨b, 0, none⟩ : Addr).add j) = some u := fun j u hj => by rw [addr_add, hb.cell]; simpa using hj
  have hl : r.length = 1 * n := by rw [hr.1, Nat.one_mul]
  have h63 : rows.length + 1 ≤ maxLen := by unfold maxLen; omega
  have hby' : (rows.length + 1) * i.bytes ≤ 140737488355328 := Nat.le_trans (Nat.mul_le_mul (show rows.length + 1 ≤ 1048576 by omega) hby) (by decide)
  obtain ⟨v', w', hrun, r1, r2, r3⟩ := run_append_own (P := P) w B t ty e i z n i.bytes hs.und hi hz hsz rfl hs.cells hs.pos v rows.length rows.flatten ho.2 ⟨b, 0, none⟩ 1 c r hl hnews hr.2 h63 hby' hB
  have hf := fresh_of (P := P) (ty := ty) hs.und hi hz hsz ho.2 hl hnews hr.2 h63 hby' (by decide) hrun
  have hW : Wid w' B e n v' (rows ++ [r]) := ⟨fun q hq => by
    rcases List.mem_append.1 hq with h | h
    · exact ho.1 q h
    · rw [List.mem_singleton.1 h]; exact hr, by simpa using r1⟩
  refine .val (w' := w') hg rfl hN (fun a ha => ?_) (h v' w' hW r2 hf (fun hc => by simpa using r3.1 hc))
  rw [BigFrame.execOp_builtin, BigFrame.builtin_append]
  simp only [List.map_toArray, List.map_cons, List.map_nil, ha.ev hsv, ha.ev hxv, Sem.run_bind, hrun, Result.andThen, Sem.run_pure]
def ones (vs : List Value) : List (List Value) := vs.map fun v => [v]
theorem ones_flat (vs : List Value) : (ones vs).flatten = vs := by
  unfold ones
  induction vs with
  | nil => rfl
  | cons v r ih => rw [List.map_cons, List.flatten_cons, ih]; rfl
theorem Wid.of_own {B : Nat} {e : TypeId} {v : Value} {vs : List Value} (h : Own w B e v vs) (h1 : ∀ u ∈ vs, u.oneCell' = true) : Wid w B e 1 v (ones vs) := by
  refine ⟨fun r hr => ?_, ?_⟩
  · obtain ⟨u, hu, rfl⟩ := List.mem_map.1 hr
    exact ⟨rfl, fun y hy => by rw [List.mem_singleton.1 hy]; exact h1 u hu⟩
  · rw [ones_flat]
    have : (ones vs).length = vs.length := List.length_map _
    rw [this]
    exact h
theorem Wid.to_own {B : Nat} {e : TypeId} {v : Value} {vs : List Value} (h : Wid w B e 1 v (ones vs)) : Own w B e v vs := by
  have h2 := h.2
  rw [ones_flat] at h2
  have : (ones vs).length = vs.length := List.length_map _
  rw [this] at h2
  exact h2
theorem Sq.app1F {t e : TypeId} {z : Value} {b c : Nat} {s x : Operand} {v u : Value} {vs : List Value} {B : Nat}
    (hs : SlT P t e z) (ho : Own w B e v vs) (h1 : ∀ u ∈ vs, u.oneCell' = true) (hB : B ≤ w.heap.size) (hlen : vs.length < 1048576) (hb : Blk w b e [u]) (hu : u.oneCell' = true) (hg : On ops l g) (hN : Nat.blt d N = true) (hsv : ev l s = some v) (hxv : ev l x = some (.slice (some ⟨b, 0, none⟩) 1 c))
    (h : ∀ v' w', Own w' B e v' (vs ++ [u]) → w.grownBy w' v.ownBlock → (∀ k, v'.ownBlock = some k → v.ownBlock = some k ∨ w.heap.size ≤ k) → v' ≠ .slice none 0 0 → Sq P N ops Q rest ((d, v') :: l) w') :
    Sq P N ops Q (⟨some d, .call ⟨.builtin .append, #[s, x], #[t, t]⟩, ty, pos, after, g⟩ :: rest) l w :=
  Sq.appS (SlW.of hs) (Wid.of_own ho h1) hB (by simpa [ones] using hlen) hb ⟨rfl, by simpa using hu⟩ hg hN hsv hxv fun v' w' g1 g2 g3 g4 => h v' w' (Wid.to_own (by simpa [ones] using g1)) g2 g3 g4
end
end Go.Proofs.Ytdejmfkpohgamaa
set_option linter.unusedSimpArgs false
set_option linter.unusedVariables false
namespace Go.Proofs.Ytdejmfkpohgamaa
def InB (v : List Int) (b : Int) : Prop := ∀ x ∈ v, 0 ≤ x ∧ x ≤ b
theorem InB.at {v : List Int} {b : Int} (h : InB v b) (hb : 0 ≤ b) (k : Nat) : 0 ≤ v.getD k 0 ∧ v.getD k 0 ≤ b := by
  rcases Nat.lt_or_ge k v.length with hk | hk
  · exact h _ (getD_mem hk)
  · simp [hk, hb]
theorem InB.mono {v : List Int} {b b' : Int} (h : InB v b) (hb : b ≤ b') : InB v b' := fun x hx => ⟨(h x hx).1, Int.le_trans (h x hx).2 hb⟩
theorem InB.add {v : List Int} {b c m : Int} (h : InB v b) (hb : 0 ≤ b) (hc : 0 ≤ c ∧ c ≤ m) (k : Nat) : InB (v.set k (v.getD k 0 + c)) (b + m) := by
  intro x hx
  have hv := h.at hb k
  rcases List.mem_or_eq_of_mem_set hx with h1 | h1
  · have := h x h1; omega
  · subst h1; omega
end Go.Proofs.Ytdejmfkpohgamaa
set_option linter.unusedSimpArgs false
set_option linter.unusedVariables false
namespace Go.Proofs.Ytdejmfkpohgamaa
def lts (s : ByteArray) : List Int := s.data.toList.map fun b => (b.toNat : Int) - 97
def within (s : ByteArray) (al : Int) : Bool := decide (0 ≤ al ∧ al ≤ 63) && (decide ((s.size : Int) ≤ 50000) && (lts s).all (hs al))
theorem hs_small {al x : Int} (h : 0 ≤ al ∧ al ≤ 63) (hx : hs al x = true) : 0 ≤ x ∧ x < 6 := by
  unfold hs at hx
  simp only [Bool.and_eq_true, decide_eq_true_eq] at hx
  refine ⟨hx.1, ?_⟩
  rcases Int.lt_or_le x 6 with h1 | h1
  · exact h1
  · have h2 : al.toNat < 2 ^ 6 := by omega
    have h3 : al.toNat < 2 ^ x.toNat := Nat.lt_of_lt_of_le h2 (Nat.pow_le_pow_right (by decide) (by omega))
    rw [Nat.testBit_lt_two_pow h3] at hx
    cases hx.2
theorem hs63 (x : Int) : hs 63 x = decide (0 ≤ x ∧ x < 6) := by
  by_cases h : 0 ≤ x ∧ x < 6
  · rw [decide_eq_true h]
    obtain ⟨m, rfl⟩ := Int.eq_ofNat_of_zero_le h.1
    have : ∀ m : Fin 6, hs 63 (m.val : Int) = true := by decide
    exact this ⟨m, by omega⟩
  · rw [decide_eq_false h]
    cases hh : hs 63 x with
    | false => rfl
    | true => exact absurd (hs_small (by decide) hh) h
def runTo (a : A) (q : Int) (s : ByteArray) (k : Nat) : Int := ((lts s).take k).foldl (goA a) q
theorem foldl_in {a : A} (hv : validA a = true) : ∀ (w : List Int) (q : Int), (∀ x ∈ w, 0 ≤ x ∧ x < 6) → (0 ≤ q ∧ q < a.next.length) → 0 ≤ w.foldl (goA a) q ∧ w.foldl (goA a) q < a.next.length
  | [], q, _, hq => hq
  | x :: w, q, h, hq => foldl_in hv w _ (fun y hy => h y (by simp [hy])) (goA_in hv hq (h x (by simp)))
def after (a : A) (s : ByteArray) : Int := if validA a = true ∧ within s a.al = true then runTo a 0 s s.size else -1
end Go.Proofs.Ytdejmfkpohgamaa
set_option linter.unusedSimpArgs false
set_option linter.unusedVariables false
namespace Go.Proofs.Ytdejmfkpohgamaa
def run (a : A) (q : Int) (w : List Int) : Int := w.foldl (goA a) q
theorem run_cat (a : A) (q : Int) (v w : List Int) : run a q (v ++ w) = run a (run a q v) w := List.foldl_append
theorem run_stay {a : A} (hv : validA a = true) {w : List Int} (hw : ∀ x ∈ w, 0 ≤ x ∧ x < 6) {q : Int} (hq : 0 ≤ q ∧ q < a.next.length) : 0 ≤ run a q w ∧ run a q w < a.next.length := foldl_in hv w q hw hq
theorem zero_in {a : A} (hv : validA a = true) : 0 ≤ (0 : Int) ∧ (0 : Int) < a.next.length := by have := (validA_spec.1 hv).2.1; omega
theorem run_safe {a : A} (hv : validA a = true) : ∀ (w : List Int) (q : Int), (∀ x ∈ w, 0 ≤ x ∧ x < 6) → 0 ≤ q ∧ q < a.next.length →
    (a.acc.getD (run (safe a) q w).toNat false = true ↔ ∀ k ≤ w.length, a.acc.getD (run a q (w.take k)).toNat false = true)
  | [], q, _, _ => by simp [run]
  | x :: w, q, h, hq => by
    have hx := h x (by simp)
    have hg := goA_in hv hq hx
    have e1 : run (safe a) q (x :: w) = run (safe a) (goA (safe a) q x) w := rfl
    have e2 : ∀ k, run a q ((x :: w).take (k + 1)) = run a (goA a q x) (w.take k) := fun k => rfl
    rw [e1, goA_safe hv hq hx]
    cases hac : a.acc.getD q.toNat false with
    | true =>
      rw [if_pos rfl, run_safe hv w _ (fun y hy => h y (by simp [hy])) hg]
      constructor
      · intro hk k hl
        cases k with
        | zero => exact hac
        | succ k => rw [e2]; exact hk k (by simpa using hl)
      · intro hk k hl
        have := hk (k + 1) (by simpa using hl)
        rwa [e2] at this
    | false =>
      rw [if_neg (by simp), run_safe hv w _ (fun y hy => h y (by simp [hy])) hq]
      constructor
      · intro hk
        have := hk 0 (Nat.zero_le _)
        exact absurd (this.symm.trans hac) (by simp)
      · intro hk
        have := hk 0 (Nat.zero_le _)
        exact absurd (this.symm.trans hac) (by simp)
section
variable {P : Program} {N : Nat} {ops : Array Oper} {Q : Exit → Act → World → Prop} {S : World → Prop} {k fuel : Nat} {listed : Array Bool} {l : Slots} {w : World}
theorem Gq.beT {b : Bool} {d : Nat} (e : b = true) (h : Gq P N ops Q S k fuel listed ((d, .bool true) :: l) w) : Gq P N ops Q S k fuel listed ((d, .bool b) :: l) w := by rw [e]; exact h
theorem Gq.beF {b : Bool} {d : Nat} (e : b = false) (h : Gq P N ops Q S k fuel listed ((d, .bool false) :: l) w) : Gq P N ops Q S k fuel listed ((d, .bool b) :: l) w := by rw [e]; exact h
end
theorem Own.setU2 {w : World} {B : Nat} {e : TypeId} {v : Value} {ys : List UInt8} {x y : UInt8} {i j : Nat} (h : Own w B e v (((ys.map fun b => Value.int .u8 (b.toNat : Int)).set i (Value.int .u8 (x.toNat : Int))).set j (Value.int .u8 (y.toNat : Int)))) : Own w B e v (((ys.set i x).set j y).map fun b => Value.int .u8 (b.toNat : Int)) := by
  rw [List.map_set, List.map_set]; exact h
def RevAt (xs : List UInt8) (k : Nat) (ys : List UInt8) : Prop := ys.length = xs.length ∧ ∀ m, m < xs.length → ys.getD m 0 = if m < k ∨ xs.length - 1 - k < m then xs.getD (xs.length - 1 - m) 0 else xs.getD m 0
theorem RevAt.zero (xs : List UInt8) : RevAt xs 0 xs := ⟨rfl, fun m hm => by rw [if_neg (by omega)]⟩
theorem getD_setU (l : List UInt8) (k m : Nat) (x : UInt8) (hk : k < l.length) : (l.set k x).getD m 0 = if k = m then x else l.getD m 0 := by
  rw [List.getD_eq_getElem?_getD, List.getElem?_set]
  by_cases h : k = m
  · subst h; simp [hk]
  · simp [h]
theorem RevAt.step {xs ys : List UInt8} {k : Nat} (h : RevAt xs k ys) (hk : k < xs.length - 1 - k) : RevAt xs (k + 1) ((ys.set k (ys.getD (xs.length - 1 - k) 0)).set (xs.length - 1 - k) (ys.getD k 0)) := by
  obtain ⟨h1, h2⟩ := h
  refine ⟨by simp [h1], fun m hm => ?_⟩
  rw [getD_setU _ _ _ _ (by rw [List.length_set]; omega), getD_setU _ _ _ _ (by omega)]
  by_cases e1 : xs.length - 1 - k = m
  · subst e1
    rw [if_pos rfl, h2 k (by omega), if_neg (by omega), if_pos (by omega)]
    congr 1; omega
  · rw [if_neg e1]
    by_cases e2 : k = m
    · subst e2
      rw [if_pos rfl, h2 _ (by omega), if_neg (by omega), if_pos (by omega)]
    · rw [if_neg e2, h2 m hm]
      by_cases h3 : m < k ∨ xs.length - 1 - k < m
      · rw [if_pos h3, if_pos (by omega)]
      · rw [if_neg h3, if_neg (by omega)]
theorem RevAt.done {xs ys : List UInt8} {k : Nat} (h : RevAt xs k ys) (hk : xs.length - 1 ≤ k + k) : ys = xs.reverse := by
  obtain ⟨h1, h2⟩ := h
  refine List.ext_getElem (by rw [h1, List.length_reverse]) fun m m1 m2 => ?_
  have h3 := h2 m (by omega)
  rw [List.getD_eq_getElem?_getD, List.getElem?_eq_getElem m1] at h3
  rw [List.getElem_reverse]
  have h4 : xs.length - 1 - m < xs.length := by omega
  have e : xs.getD (xs.length - 1 - m) 0 = xs[xs.length - 1 - m] := by rw [List.getD_eq_getElem?_getD, List.getElem?_eq_getElem h4]; rfl
  rw [← e]
  by_cases h5 : m < k ∨ xs.length - 1 - k < m
  · rw [if_pos h5] at h3; exact h3
  · rw [if_neg h5] at h3
    have : xs.length - 1 - m = m := by omega
    rw [this]; exact h3
end Go.Proofs.Ytdejmfkpohgamaa
set_option linter.unusedSimpArgs false
set_option linter.unusedVariables false
namespace Go.Proofs.Ytdejmfkpohgamaa
def many (n : Nat) : Nat := if h : n = 0 then 200 else many (n - 1)
  termination_by n
theorem many_eq : many 0 = 200 := by rw [many]; simp
section bfs
variable {α : Type} [DecidableEq α]
def addNode (ns : List α) (x : α) : List α := if x ∈ ns then ns else ns ++ [x]
def addAll (ns : List α) (xs : List α) : List α := xs.foldl addNode ns
theorem addNode_T {ns : List α} {x : α} (h : x ∈ ns) : addNode ns x = ns := if_pos h
theorem addNode_F {ns : List α} {x : α} (h : x ∉ ns) : addNode ns x = ns ++ [x] := if_neg h
theorem addNode_prefix (ns : List α) (x : α) : ns <+: addNode ns x := by
  unfold addNode
  split
  · exact List.prefix_refl _
  · exact List.prefix_append _ _
theorem mem_addNode {ns : List α} {x y : α} : y ∈ addNode ns x ↔ y ∈ ns ∨ y = x := by
  unfold addNode
  split
  · exact ⟨.inl, fun h => h.elim id (fun h => h ▸ by assumption)⟩
  · simp
theorem nodup_addNode {ns : List α} (h : ns.Nodup) (x : α) : (addNode ns x).Nodup := by
  unfold addNode
  split
  · exact h
  · rename_i hx
    rw [List.nodup_append]
    exact ⟨h, by simp, fun a ha b hb hab => hx (by rw [List.mem_singleton.1 hb] at hab; exact hab ▸ ha)⟩
theorem addAll_snoc (ns xs : List α) (x : α) : addAll ns (xs ++ [x]) = addNode (addAll ns xs) x := by
  unfold addAll
  rw [List.foldl_append]
  rfl
theorem addAll_nil (ns : List α) : addAll ns [] = ns := rfl
theorem addAll_cons (ns : List α) (x : α) (xs : List α) : addAll ns (x :: xs) = addAll (addNode ns x) xs := rfl
theorem addAll_prefix : ∀ (xs ns : List α), ns <+: addAll ns xs
  | [], ns => List.prefix_refl _
  | x :: xs, ns => (addNode_prefix ns x).trans (addAll_prefix xs _)
theorem mem_addAll {y : α} : ∀ {xs ns : List α}, y ∈ addAll ns xs ↔ y ∈ ns ∨ y ∈ xs
  | [], ns => by simp [addAll_nil]
  | x :: xs, ns => by rw [addAll_cons, mem_addAll, mem_addNode, List.mem_cons, or_assoc]
theorem nodup_addAll : ∀ {xs ns : List α}, ns.Nodup → (addAll ns xs).Nodup
  | [], _, h => h
  | x :: xs, _, h => nodup_addAll (xs := xs) (nodup_addNode h x)
def bfs (f : α → Int → α) (s : α) (L : List Int) : Nat → List α
  | 0 => [s]
  | i + 1 => match (bfs f s L i)[i]? with
    | some q => addAll (bfs f s L i) (L.map (f q))
    | none => bfs f s L i
variable {f : α → Int → α} {s : α} {L : List Int}
theorem bfs_succ {i : Nat} {q : α} (h : (bfs f s L i)[i]? = some q) : bfs f s L (i + 1) = addAll (bfs f s L i) (L.map (f q)) := by rw [bfs, h]
theorem bfs_prefix1 (i : Nat) : bfs f s L i <+: bfs f s L (i + 1) := by
  rw [bfs]
  split
  · exact addAll_prefix _ _
  · exact List.prefix_refl _
theorem bfs_prefix {i j : Nat} (h : i ≤ j) : bfs f s L i <+: bfs f s L j := by
  induction j with
  | zero => rw [Nat.le_zero.1 h]; exact List.prefix_refl _
  | succ j ih =>
    rcases Nat.lt_or_ge j i with h1 | h1
    · rw [show i = j + 1 by omega]; exact List.prefix_refl _
    · exact (ih h1).trans (bfs_prefix1 j)
theorem bfs_nodup (i : Nat) : (bfs f s L i).Nodup := by
  induction i with
  | zero => simp [bfs]
  | succ i ih =>
    rw [bfs]
    split
    · exact nodup_addAll ih
    · exact ih
theorem bfs_stop {i : Nat} (h : (bfs f s L i).length ≤ i) {j : Nat} (hj : i ≤ j) : bfs f s L j = bfs f s L i := by
  induction j with
  | zero => rw [Nat.le_zero.1 hj]
  | succ j ih =>
    rcases Nat.lt_or_ge j i with h1 | h1
    · rw [show i = j + 1 by omega]
    · rw [bfs, ih h1, List.getElem?_eq_none (by omega)]
theorem bfs_all {P : α → Prop} (h0 : P s) (hs : ∀ q, P q → ∀ l ∈ L, P (f q l)) (i : Nat) : ∀ q ∈ bfs f s L i, P q := by
  induction i with
  | zero => simp [bfs, h0]
  | succ i ih =>
    rw [bfs]
    split
    · rename_i q hq
      have hq' : q ∈ bfs f s L i := List.mem_of_getElem? hq
      intro y hy
      rcases mem_addAll.1 hy with h | h
      · exact ih y h
      · obtain ⟨l, hl, rfl⟩ := List.mem_map.1 h
        exact hs q (ih q hq') l hl
    · exact ih
theorem bfs_closed {i j : Nat} {q : α} (hj : j < i) (h : (bfs f s L i)[j]? = some q) : ∀ l ∈ L, f q l ∈ bfs f s L i := by
  intro l hl
  have h1 : (bfs f s L (j + 1)) <+: bfs f s L i := bfs_prefix hj
  have h0 : (bfs f s L j) <+: bfs f s L i := bfs_prefix (by omega)
  rcases Nat.lt_or_ge j (bfs f s L j).length with h2 | h2
  · have h3 : (bfs f s L j)[j]? = some q := by
      obtain ⟨t, ht⟩ := h0
      rw [← ht, List.getElem?_append_left h2] at h
      exact h
    rw [bfs_succ h3] at h1
    exact h1.subset (mem_addAll.2 (.inr (List.mem_map.2 ⟨l, hl, rfl⟩)))
  · rw [bfs_stop h2 (by omega), List.getElem?_eq_none h2] at h
    cases h
theorem nodup_len : ∀ {xs U : List α}, xs.Nodup → (∀ q ∈ xs, q ∈ U) → xs.length ≤ U.length
  | [], _, _, _ => Nat.zero_le _
  | x :: xs, U, h, hs => by
    obtain ⟨h1, h2⟩ := List.nodup_cons.1 h
    have hx := hs x (by simp)
    have h3 := nodup_len (U := U.erase x) h2 (fun q hq => (List.mem_erase_of_ne (by rintro rfl; exact h1 hq)).2 (hs q (by simp [hq])))
    rw [List.length_erase_of_mem hx] at h3
    have := List.length_pos_of_mem hx
    simp only [List.length_cons]
    omega
theorem bfs_len {M : Nat} {U : List α} (h0 : s ∈ U) (hs : ∀ q ∈ U, ∀ l ∈ L, f q l ∈ U) (hU : U.length ≤ M) (i : Nat) : (bfs f s L i).length ≤ M :=
  Nat.le_trans (nodup_len (bfs_nodup i) (fun q hq => bfs_all (P := (· ∈ U)) h0 hs i q hq)) hU
def ord (f : α → Int → α) (s : α) (L : List Int) : List α := bfs f s L (many 0)
theorem ord_done {i : Nat} (h : (bfs f s L i).length ≤ i) (hi : i ≤ 200) : bfs f s L i = ord f s L := (bfs_stop h (by rw [many_eq]; exact hi)).symm
theorem ord_prefix {i : Nat} (hi : i ≤ 200) : bfs f s L i <+: ord f s L := bfs_prefix (by rw [many_eq]; exact hi)
theorem ord_nodup : (ord f s L).Nodup := bfs_nodup _
theorem ord_mem0 : s ∈ ord f s L := (bfs_prefix (Nat.zero_le (many 0))).subset (by simp [bfs])
theorem ord_zero : (ord f s L)[0]? = some s := by
  obtain ⟨t, ht⟩ := bfs_prefix (f := f) (s := s) (L := L) (Nat.zero_le (many 0))
  unfold ord
  rw [← ht]; rfl
theorem ord_pos : 0 < (ord f s L).length := List.length_pos_of_mem ord_mem0
theorem ord_closed (h : (ord f s L).length ≤ 200) {q : α} (hq : q ∈ ord f s L) : ∀ l ∈ L, f q l ∈ ord f s L := by
  obtain ⟨j, hj, rfl⟩ := List.mem_iff_getElem.1 hq
  exact bfs_closed (Nat.lt_of_lt_of_le hj (by rw [many_eq]; exact h)) (List.getElem?_eq_getElem hj)
theorem ord_all {P : α → Prop} (h0 : P s) (hs : ∀ q, P q → ∀ l ∈ L, P (f q l)) : ∀ q ∈ ord f s L, P q := bfs_all h0 hs _
theorem ord_zero' (h : (ord f s L).length ≤ 200) : (ord f s L).idxOf s = 0 := by
  have h0 := ord_zero (f := f) (s := s) (L := L)
  cases hl : ord f s L with
  | nil => rw [hl] at h0; cases h0
  | cons x r => rw [hl] at h0; simp at h0; subst h0; simp
theorem idx_prefix {xs ys : List α} (h : xs <+: ys) {x : α} (hx : x ∈ xs) : ys.idxOf x = xs.idxOf x := by
  obtain ⟨t, rfl⟩ := h
  rw [List.idxOf_append, if_pos hx]
theorem idx_new {xs : List α} {x : α} (hx : x ∉ xs) : (addNode xs x).idxOf x = xs.length := by
  rw [addNode_F hx, List.idxOf_append, if_neg hx]
  simp
theorem idx_getElem {xs : List α} (h : xs.Nodup) {i : Nat} {x : α} (hi : xs[i]? = some x) : xs.idxOf x = i := by
  obtain ⟨hl, rfl⟩ := List.getElem?_eq_some_iff.1 hi
  exact h.idxOf_getElem i hl
theorem getElem_idx {xs : List α} {x : α} (h : x ∈ xs) : xs[xs.idxOf x]? = some x := by
  rw [List.getElem?_eq_some_iff]
  exact ⟨List.idxOf_lt_length_iff.2 h, List.getElem_idxOf _⟩
def rowAt (f : α → Int → α) (L : List Int) (ns : List α) (q : α) : List Int := L.map fun l => (ns.idxOf (f q l) : Int)
def rowsAt (f : α → Int → α) (L : List Int) (ns : List α) (i : Nat) : List (List Int) := (ns.take i).map (rowAt f L ns)
theorem rowAt_prefix {ns ms : List α} {q : α} (h : ns <+: ms) (hm : ∀ l ∈ L, f q l ∈ ns) : rowAt f L ms q = rowAt f L ns q :=
  List.map_congr_left fun l hl => by rw [idx_prefix h (hm l hl)]
theorem rowsAt_step {i : Nat} {q : α} (h : (bfs f s L i)[i]? = some q) : rowsAt f L (bfs f s L (i + 1)) (i + 1) = rowsAt f L (bfs f s L i) i ++ [rowAt f L (bfs f s L (i + 1)) q] := by
  have hi := (List.getElem?_eq_some_iff.1 h).1
  have hp := bfs_prefix1 (f := f) (s := s) (L := L) i
  have e1 : (bfs f s L (i + 1)).take (i + 1) = (bfs f s L i).take i ++ [q] := by
    obtain ⟨t, ht⟩ := hp
    rw [← ht, List.take_append_of_le_length (by omega), List.take_succ_eq_append_getElem hi]
    congr 1
    simp only [List.cons.injEq, and_true]
    rw [List.getElem?_eq_getElem hi] at h
    exact Option.some.inj h
  unfold rowsAt
  rw [e1, List.map_append]
  congr 1
  refine List.map_congr_left fun p hp' => rowAt_prefix hp ?_
  obtain ⟨j, hj, rfl⟩ := List.mem_iff_getElem.1 hp'
  rw [List.length_take] at hj
  rw [List.getElem_take]
  exact bfs_closed (by omega) (List.getElem?_eq_getElem (by omega))
theorem rowsAt_length (ns : List α) (i : Nat) (h : i ≤ ns.length) : (rowsAt f L ns i).length = i := by simp [rowsAt]; omega
def rowTo (f : α → Int → α) (L : List Int) (ns : List α) (q : α) (k : Nat) : List Int := (L.take k).map fun l => (ns.idxOf (f q l) : Int)
theorem rowTo_step {ns : List α} {q : α} {k : Nat} (hk : k < L.length) (hm : ∀ l ∈ L.take k, f q l ∈ ns) : rowTo f L (addNode ns (f q (L.getD k 0))) q (k + 1) = rowTo f L ns q k ++ [((addNode ns (f q (L.getD k 0))).idxOf (f q (L.getD k 0)) : Int)] := by
  unfold rowTo
  rw [take_snoc 0 hk, List.map_append]
  congr 1
  exact List.map_congr_left fun l hl => by rw [idx_prefix (addNode_prefix _ _) (hm l hl)]
theorem rowTo_done {ns : List α} {q : α} {k : Nat} (h : L.length ≤ k) : rowTo f L ns q k = rowAt f L ns q := by unfold rowTo; rw [List.take_of_length_le h]; rfl
def mid (f : α → Int → α) (s : α) (L : List Int) (i : Nat) (q : α) (k : Nat) : List α := addAll (bfs f s L i) ((L.take k).map (f q))
theorem mid_succ {i : Nat} {q : α} {k : Nat} (hk : k < L.length) : mid f s L i q (k + 1) = addNode (mid f s L i q k) (f q (L.getD k 0)) := by
  unfold mid
  rw [take_snoc 0 hk, List.map_append]
  exact addAll_snoc _ _ _
theorem mid_done {i : Nat} {q : α} {k : Nat} (h : L.length ≤ k) (hq : (bfs f s L i)[i]? = some q) : mid f s L i q k = bfs f s L (i + 1) := by
  unfold mid
  rw [List.take_of_length_le h, bfs_succ hq]
theorem mid_mem {i : Nat} {q : α} {k : Nat} : ∀ l ∈ L.take k, f q l ∈ mid f s L i q k := fun l hl => mem_addAll.2 (.inr (List.mem_map.2 ⟨l, hl, rfl⟩))
theorem mid_prefix {i : Nat} {q : α} {k : Nat} (hq : (bfs f s L i)[i]? = some q) : mid f s L i q k <+: bfs f s L (i + 1) := by
  rw [bfs_succ hq]
  unfold mid
  have : L.map (f q) = (L.take k).map (f q) ++ (L.drop k).map (f q) := by rw [← List.map_append, List.take_append_drop]
  rw [this]
  unfold addAll
  rw [List.foldl_append]
  exact addAll_prefix _ _
theorem mid_prefix0 (i : Nat) (q : α) (k : Nat) : bfs f s L i <+: mid f s L i q k := addAll_prefix _ _
end bfs
section maps
variable {α β : Type} [DecidableEq α] [DecidableEq β] {f : α → Int → α} {s : α} {L : List Int} {f' : β → Int → β} {g : α → β} {P : α → Prop}
theorem addNode_map {ns : List α} {x : α} (hg : ∀ a b, P a → P b → g a = g b → a = b) (hn : ∀ a ∈ ns, P a) (hx : P x) : addNode (ns.map g) (g x) = (addNode ns x).map g := by
  by_cases h : x ∈ ns
  · rw [addNode_T h, addNode_T (List.mem_map_of_mem h)]
  · have : g x ∉ ns.map g := fun hc => by
      obtain ⟨y, hy, e⟩ := List.mem_map.1 hc
      exact h (hg y x (hn y hy) hx e ▸ hy)
    rw [addNode_F h, addNode_F this, List.map_append]; rfl
theorem addAll_map (hg : ∀ a b, P a → P b → g a = g b → a = b) : ∀ {xs ns : List α}, (∀ a ∈ ns, P a) → (∀ a ∈ xs, P a) → addAll (ns.map g) (xs.map g) = (addAll ns xs).map g
  | [], ns, _, _ => rfl
  | x :: xs, ns, hn, hx => by
    rw [List.map_cons, addAll_cons, addAll_cons, addNode_map hg hn (hx x (by simp))]
    refine addAll_map hg (fun a ha => ?_) (fun a ha => hx a (by simp [ha]))
    rcases mem_addNode.1 ha with h | h
    · exact hn a h
    · exact h ▸ hx x (by simp)
theorem bfs_map (hg : ∀ a b, P a → P b → g a = g b → a = b) (h0 : P s) (hs : ∀ q, P q → ∀ l ∈ L, P (f q l)) (hf : ∀ q, P q → ∀ l ∈ L, f' (g q) l = g (f q l)) (i : Nat) : bfs f' (g s) L i = (bfs f s L i).map g := by
  induction i with
  | zero => rfl
  | succ i ih =>
    rw [bfs, bfs, ih, List.getElem?_map]
    cases hq : (bfs f s L i)[i]? with
    | none => rfl
    | some q =>
      have hP := bfs_all h0 hs i
      have hPq := hP q (List.mem_of_getElem? hq)
      have e : L.map (f' (g q)) = (L.map (f q)).map g := by
        rw [List.map_map]
        exact List.map_congr_left fun l hl => hf q hPq l hl
      simp only [Option.map_some]
      rw [e]
      exact addAll_map hg hP (fun a ha => by obtain ⟨l, hl, rfl⟩ := List.mem_map.1 ha; exact hs q hPq l hl)
theorem ord_map (hg : ∀ a b, P a → P b → g a = g b → a = b) (h0 : P s) (hs : ∀ q, P q → ∀ l ∈ L, P (f q l)) (hf : ∀ q, P q → ∀ l ∈ L, f' (g q) l = g (f q l)) : ord f' (g s) L = (ord f s L).map g := bfs_map hg h0 hs hf _
theorem idx_map {xs : List α} {x : α} (hg : ∀ a b, P a → P b → g a = g b → a = b) (hn : ∀ a ∈ xs, P a) (hx : P x) : (xs.map g).idxOf (g x) = xs.idxOf x := by
  induction xs with
  | nil => rfl
  | cons y xs ih =>
    rw [List.map_cons, List.idxOf_cons, List.idxOf_cons, ih (fun a ha => hn a (by simp [ha]))]
    have : (g y == g x) = (y == x) := by
      rw [Bool.eq_iff_iff, beq_iff_eq, beq_iff_eq]
      exact ⟨hg y x (hn y (by simp)) hx, fun h => by rw [h]⟩
    rw [this]
end maps
def num {α : Type} [DecidableEq α] (al : Int) (f : α → Int → α) (s : α) (acc : α → Bool) : A :=
  ⟨al, (ord f s (letters al)).map (rowAt f (letters al) (ord f s (letters al))), (ord f s (letters al)).map acc⟩
section num
variable {α : Type} [DecidableEq α] {al : Int} {f : α → Int → α} {s : α} {acc : α → Bool}
theorem num_len : (num al f s acc).next.length = (ord f s (letters al)).length := by simp [num]
theorem num_accs : (num al f s acc).acc.length = (ord f s (letters al)).length := by simp [num]
theorem num_valid (hal : 0 ≤ al ∧ al ≤ 63) (h : (ord f s (letters al)).length ≤ 12) : validA (num al f s acc) = true := by
  have h0 := ord_pos (f := f) (s := s) (L := letters al)
  refine validA_spec.2 ⟨hal, by rw [num_len]; omega, by rw [num_accs, num_len], fun row hr => ?_⟩
  obtain ⟨q, hq, rfl⟩ := List.mem_map.1 hr
  refine ⟨by simp [rowAt, num], fun y hy => ?_⟩
  obtain ⟨l, hl, rfl⟩ := List.mem_map.1 hy
  rw [num_len]
  have := List.idxOf_lt_length_iff.2 (ord_closed (by omega) hq l hl)
  omega
theorem goA_num (hal : 0 ≤ al ∧ al ≤ 63) {q : α} (hq : q ∈ ord f s (letters al)) {l : Int} (hl : l ∈ letters al) : goA (num al f s acc) ((ord f s (letters al)).idxOf q : Int) l = ((ord f s (letters al)).idxOf (f q l) : Int) := by
  obtain ⟨hx0, hx6, hh⟩ := mem_letters hl
  obtain ⟨p1, p2⟩ := place_lt hal ⟨hx0, hx6⟩ hh
  have hlt := List.idxOf_lt_length_iff.2 hq
  have hh' : hs (num al f s acc).al l = true := hh
  have e0 : (num al f s acc).next = (ord f s (letters al)).map (rowAt f (letters al) (ord f s (letters al))) := rfl
  have e9 : place (num al f s acc).al l = place al l := rfl
  have e2 : ((ord f s (letters al)).map (rowAt f (letters al) (ord f s (letters al)))).getD ((ord f s (letters al)).idxOf q) [] = rowAt f (letters al) (ord f s (letters al)) q := by
    rw [List.getD_eq_getElem?_getD, List.getElem?_map, getElem_idx hq]; rfl
  have e3 : (letters al)[place al l]? = some l := by
    rw [List.getElem?_eq_getElem p1]
    rw [List.getD_eq_getElem?_getD, List.getElem?_eq_getElem p1] at p2
    exact congrArg some p2
  rw [goA_yes hh', e0, e9, Int.toNat_natCast, e2]
  unfold rowAt
  rw [List.getD_eq_getElem?_getD, List.getElem?_map, e3]
  rfl
theorem num_acc : (num al f s acc).acc = (ord f s (letters al)).map acc := rfl
theorem acc_num {q : α} (hq : q ∈ ord f s (letters al)) : (num al f s acc).acc.getD (((ord f s (letters al)).idxOf q : Int)).toNat false = acc q := by
  rw [num_acc, Int.toNat_natCast, List.getD_eq_getElem?_getD, List.getElem?_map, getElem_idx hq]
  rfl
theorem run_num (hal : 0 ≤ al ∧ al ≤ 63) (h : (ord f s (letters al)).length ≤ 200) : ∀ (w : List Int) {q : α}, q ∈ ord f s (letters al) → (∀ x ∈ w, x ∈ letters al) → run (num al f s acc) ((ord f s (letters al)).idxOf q : Int) w = ((ord f s (letters al)).idxOf (w.foldl f q) : Int) ∧ w.foldl f q ∈ ord f s (letters al)
  | [], q, hq, _ => ⟨rfl, hq⟩
  | x :: w, q, hq, hw => by
    have hx := hw x (by simp)
    have hn := ord_closed h hq x hx
    have := run_num hal h w hn (fun y hy => hw y (by simp [hy]))
    refine ⟨?_, this.2⟩
    have e : run (num al f s acc) ((ord f s (letters al)).idxOf q : Int) (x :: w) = run (num al f s acc) (goA (num al f s acc) ((ord f s (letters al)).idxOf q : Int) x) w := rfl
    rw [e, goA_num hal hq hx]
    exact this.1
theorem num_map {β : Type} [DecidableEq β] {f' : β → Int → β} {acc' : β → Bool} {g : α → β} {P : α → Prop} (hg : ∀ a b, P a → P b → g a = g b → a = b) (h0 : P s) (hs : ∀ q, P q → ∀ l ∈ letters al, P (f q l))
    (hf : ∀ q, P q → ∀ l ∈ letters al, f' (g q) l = g (f q l)) (ha : ∀ q, P q → acc' (g q) = acc q) : num al f' (g s) acc' = num al f s acc := by
  have hP := ord_all (f := f) (s := s) (L := letters al) h0 hs
  have e := ord_map (f := f) (s := s) (L := letters al) (f' := f') hg h0 hs hf
  unfold num
  rw [e]
  simp only [List.map_map, A.mk.injEq, true_and]
  refine ⟨List.map_congr_left fun q hq => ?_, List.map_congr_left fun q hq => ha q (hP q hq)⟩
  show rowAt f' (letters al) ((ord f s (letters al)).map g) (g q) = _
  refine List.map_congr_left fun l hl => ?_
  rw [hf q (hP q hq) l hl, idx_map hg hP (hs q (hP q hq) l hl)]
end num
def accA (a : A) (q : Int) : Bool := a.acc.getD q.toNat false
def trim (a : A) : A := num a.al (goA a) 0 (accA a)
theorem inU {n : Nat} {q : Int} : q ∈ (List.range n).map (fun i : Nat => (i : Int)) ↔ 0 ≤ q ∧ q < n := by
  rw [List.mem_map]
  constructor
  · rintro ⟨i, hi, rfl⟩; have := List.mem_range.1 hi; omega
  · rintro ⟨h1, h2⟩; exact ⟨q.toNat, List.mem_range.2 (by omega), by omega⟩
theorem trim_bfs_len {a : A} (hv : validA a = true) (i : Nat) : (bfs (goA a) 0 (letters a.al) i).length ≤ a.next.length :=
  bfs_len (U := (List.range a.next.length).map (fun i : Nat => (i : Int))) (inU.2 (zero_in hv)) (fun q hq l hl => inU.2 (goA_in hv (inU.1 hq) ⟨(mem_letters hl).1, (mem_letters hl).2.1⟩)) (by simp) i
theorem trim_len {a : A} (hv : validA a = true) : (ord (goA a) 0 (letters a.al)).length ≤ a.next.length := trim_bfs_len hv _
theorem trim_valid {a : A} (hv : validA a = true) : validA (trim a) = true := num_valid (validA_spec.1 hv).1 (by have := trim_len hv; have := (validA_spec.1 hv).2.1; omega)
def step2 (a b : A) (p : Int × Int) (l : Int) : Int × Int := (goA a p.1 l, goA b p.2 l)
def kindB (k : Int) (x y : Bool) : Bool := if k = 0 then x && y else if k = 1 then x || y else x && !y
def acc2 (a b : A) (k : Int) (p : Int × Int) : Bool := kindB k (accA a p.1) (accA b p.2)
def ord2 (a b : A) : List (Int × Int) := ord (step2 a b) (0, 0) (letters (orI a.al b.al))
def prodA (a b : A) (k : Int) : A := num (orI a.al b.al) (step2 a b) (0, 0) (acc2 a b k)
def prodOk (a b : A) (k : Int) : Bool := validA a && (validA b && (decide (0 ≤ k ∧ k ≤ 2) && decide ((ord2 a b).length ≤ 12)))
theorem prodOk_spec {a b : A} {k : Int} : prodOk a b k = true ↔ validA a = true ∧ validA b = true ∧ (0 ≤ k ∧ k ≤ 2) ∧ (ord2 a b).length ≤ 12 := by
  unfold prodOk
  simp only [Bool.and_eq_true, decide_eq_true_eq]
theorem in2 {a b : A} (hv : validA a = true) (hv' : validA b = true) {p : Int × Int} (hp : (0 ≤ p.1 ∧ p.1 < a.next.length) ∧ 0 ≤ p.2 ∧ p.2 < b.next.length) {l : Int} (hl : 0 ≤ l ∧ l < 6) : (0 ≤ (step2 a b p l).1 ∧ (step2 a b p l).1 < a.next.length) ∧ 0 ≤ (step2 a b p l).2 ∧ (step2 a b p l).2 < b.next.length :=
  ⟨goA_in hv hp.1 hl, goA_in hv' hp.2 hl⟩
end Go.Proofs.Ytdejmfkpohgamaa
set_option linter.unusedSimpArgs false
set_option linter.unusedVariables false
namespace Go.Proofs.Ytdejmfkpohgamaa
def In2 (a b : A) (p : Int × Int) : Prop := (0 ≤ p.1 ∧ p.1 < a.next.length) ∧ 0 ≤ p.2 ∧ p.2 < b.next.length
theorem in_zero {a b : A} (hv : validA a = true) (hv' : validA b = true) : In2 a b (0, 0) := ⟨zero_in hv, zero_in hv'⟩
theorem in_step {a b : A} (hv : validA a = true) (hv' : validA b = true) {L : Int} : ∀ p, In2 a b p → ∀ l ∈ letters L, In2 a b (step2 a b p l) := fun p hp l hl => in2 hv hv' hp ⟨(mem_letters hl).1, (mem_letters hl).2.1⟩
theorem le144 {a b : A} (hv : validA a = true) (hv' : validA b = true) : a.next.length * b.next.length ≤ 144 := Nat.mul_le_mul (validA_spec.1 hv).2.1.2 (validA_spec.1 hv').2.1.2
theorem prod_al {a b : A} (hv : validA a = true) (hv' : validA b = true) : 0 ≤ orI a.al b.al ∧ orI a.al b.al ≤ 63 := orI_le (validA_spec.1 hv).1 (validA_spec.1 hv').1
theorem prod_valid {a b : A} {k : Int} (h : prodOk a b k = true) : validA (prodA a b k) = true := by
  obtain ⟨h1, h2, _, h4⟩ := prodOk_spec.1 h
  exact num_valid (prod_al h1 h2) h4
theorem prodOk_kind {a b : A} {k k' : Int} (h : prodOk a b k = true) (hk : 0 ≤ k' ∧ k' ≤ 2) : prodOk a b k' = true := by
  obtain ⟨h1, h2, h3, h4⟩ := prodOk_spec.1 h
  exact prodOk_spec.2 ⟨h1, h2, hk, h4⟩
theorem fold2 (a b : A) : ∀ (w : List Int) (p : Int × Int), w.foldl (step2 a b) p = (run a p.1 w, run b p.2 w)
  | [], p => rfl
  | x :: w, p => by rw [List.foldl_cons, fold2 a b w]; rfl
def enc2 (b : A) (p : Int × Int) : Int := p.1 * (b.next.length : Int) + p.2
def fP (a b : A) (q x : Int) : Int := goA a (q / (b.next.length : Int)) x * (b.next.length : Int) + goA b (q % (b.next.length : Int)) x
def accP (a b : A) (k q : Int) : Bool := kindB k (accA a (q / (b.next.length : Int))) (accA b (q % (b.next.length : Int)))
def InP (a b : A) (q : Int) : Prop := 0 ≤ q ∧ q < ((a.next.length * b.next.length : Nat) : Int)
theorem inP_div {a b : A} {q : Int} (hv' : validA b = true) (h : InP a b q) : In2 a b (q / (b.next.length : Int), q % (b.next.length : Int)) := by
  have hb : 0 < (b.next.length : Int) := (zero_in hv').2
  refine ⟨⟨Int.ediv_nonneg h.1 (Int.le_of_lt hb), ?_⟩, Int.emod_nonneg _ (by omega), Int.emod_lt_of_pos _ hb⟩
  have h2 := h.2
  rw [Int.natCast_mul] at h2
  exact Int.ediv_lt_of_lt_mul hb h2
theorem inP_enc {a b : A} {p : Int × Int} (h : In2 a b p) : InP a b (enc2 b p) := by
  obtain ⟨⟨h1, h2⟩, h3, h4⟩ := h
  have hb : 0 ≤ (b.next.length : Int) := by omega
  have h5 : p.1 * (b.next.length : Int) ≤ ((a.next.length : Int) - 1) * (b.next.length : Int) := Int.mul_le_mul_of_nonneg_right (by omega) hb
  have h6 : 0 ≤ p.1 * (b.next.length : Int) := Int.mul_nonneg h1 hb
  unfold InP enc2
  rw [Int.natCast_mul]
  rw [Int.sub_mul] at h5
  omega
theorem enc_div {a b : A} {p : Int × Int} (h : In2 a b p) : enc2 b p / (b.next.length : Int) = p.1 ∧ enc2 b p % (b.next.length : Int) = p.2 := by
  obtain ⟨⟨h1, h2⟩, h3, h4⟩ := h
  have hb : 0 < (b.next.length : Int) := by omega
  unfold enc2
  constructor
  · rw [Int.add_comm, Int.add_mul_ediv_right _ _ (by omega), Int.ediv_eq_zero_of_lt h3 h4, Int.zero_add]
  · rw [Int.add_comm, Int.add_mul_emod_self_right, Int.emod_eq_of_lt h3 h4]
theorem fP_enc {a b : A} {p : Int × Int} (h : In2 a b p) (x : Int) : fP a b (enc2 b p) x = enc2 b (step2 a b p x) := by
  obtain ⟨h1, h2⟩ := enc_div h
  unfold fP
  rw [h1, h2]
  rfl
theorem fP_in {a b : A} (hv : validA a = true) (hv' : validA b = true) {q : Int} (h : InP a b q) {x : Int} (hx : 0 ≤ x ∧ x < 6) : InP a b (fP a b q x) :=
  inP_enc (p := (goA a (q / (b.next.length : Int)) x, goA b (q % (b.next.length : Int)) x)) (in2 hv hv' (inP_div hv' h) hx)
theorem zero_inP {a b : A} (hv : validA a = true) (hv' : validA b = true) : InP a b 0 := by
  have := inP_enc (in_zero hv hv')
  simpa [enc2] using this
theorem enc_inj {a b : A} (p q : Int × Int) (hp : In2 a b p) (hq : In2 a b q) (e : enc2 b p = enc2 b q) : p = q := by
  have h1 := enc_div hp
  have h2 := enc_div hq
  rw [e] at h1
  ext
  · rw [← h1.1, h2.1]
  · rw [← h1.2, h2.2]
theorem ordP {a b : A} (hv : validA a = true) (hv' : validA b = true) : ord (fP a b) 0 (letters (orI a.al b.al)) = (ord2 a b).map (enc2 b) := by
  have := ord_map (L := letters (orI a.al b.al)) (f := step2 a b) (s := ((0, 0) : Int × Int)) (f' := fP a b) (g := enc2 b) (P := In2 a b) enc_inj (in_zero hv hv') (in_step hv hv') (fun p hp l hl => fP_enc hp l)
  have e : enc2 b (0, 0) = 0 := by simp [enc2]
  rw [e] at this
  exact this
theorem numP {a b : A} {k : Int} (hv : validA a = true) (hv' : validA b = true) : num (orI a.al b.al) (fP a b) 0 (accP a b k) = prodA a b k := by
  have := num_map (al := orI a.al b.al) (f := step2 a b) (s := ((0, 0) : Int × Int)) (acc := acc2 a b k) (f' := fP a b) (acc' := accP a b k) (g := enc2 b) (P := In2 a b) enc_inj (in_zero hv hv') (in_step hv hv') (fun p hp l hl => fP_enc hp l)
    (fun p hp => by
      obtain ⟨h1, h2⟩ := enc_div hp
      unfold accP acc2
      rw [h1, h2])
  have e : enc2 b (0, 0) = 0 := by simp [enc2]
  rw [e] at this
  exact this
theorem fP_bfs_len {a b : A} (hv : validA a = true) (hv' : validA b = true) (L : Int) (i : Nat) : (bfs (fP a b) 0 (letters L) i).length ≤ 144 := by
  have h := bfs_len (f := fP a b) (s := 0) (L := letters L) (U := (List.range (a.next.length * b.next.length)).map (fun i : Nat => (i : Int))) (M := a.next.length * b.next.length) (inU.2 (zero_inP hv hv')) (fun q hq l hl => inU.2 (fP_in hv hv' (inU.1 hq) ⟨(mem_letters hl).1, (mem_letters hl).2.1⟩)) (by simp) i
  exact Nat.le_trans h (le144 hv hv')
theorem fP_mul {a b : A} (hv : validA a = true) (hv' : validA b = true) {q : Int} (h : InP a b q) {x : Int} (hx : 0 ≤ x ∧ x < 6) : 0 ≤ goA a (q / (b.next.length : Int)) x * (b.next.length : Int) ∧ goA a (q / (b.next.length : Int)) x * (b.next.length : Int) ≤ 144 := by
  have h1 : 0 ≤ goA a (q / (b.next.length : Int)) x ∧ goA a (q / (b.next.length : Int)) x < a.next.length := goA_in hv (inP_div hv' h).1 hx
  have h2 := (validA_spec.1 hv).2.1
  have h3 := (validA_spec.1 hv').2.1
  refine ⟨Int.mul_nonneg h1.1 (by omega), ?_⟩
  have : goA a (q / (b.next.length : Int)) x * (b.next.length : Int) ≤ 12 * (b.next.length : Int) := Int.mul_le_mul_of_nonneg_right (by omega) (by omega)
  have h4 : (b.next.length : Int) ≤ 12 := by omega
  omega
theorem prodOk_len {a b : A} {k : Int} (hv : validA a = true) (hv' : validA b = true) (hk : 0 ≤ k ∧ k ≤ 2) (h : (((ord (fP a b) 0 (letters (orI a.al b.al))).length : Nat) : Int) ≤ 12) : prodOk a b k = true := by
  rw [ordP hv hv', List.length_map] at h
  exact prodOk_spec.2 ⟨hv, hv', hk, by omega⟩
theorem prodOk_big {a b : A} {k : Int} (hv : validA a = true) (hv' : validA b = true) (h : ¬ (((ord (fP a b) 0 (letters (orI a.al b.al))).length : Nat) : Int) ≤ 12) : prodOk a b k = false := by
  rw [ordP hv hv', List.length_map] at h
  cases hh : prodOk a b k with
  | false => rfl
  | true => exact absurd (prodOk_spec.1 hh).2.2.2 (by omega)
theorem prodOk_no {a b : A} {k : Int} (h : validA a = false ∨ validA b = false ∨ ¬ (0 ≤ k ∧ k ≤ 2)) : prodOk a b k = false := by
  cases hh : prodOk a b k with
  | false => rfl
  | true =>
    obtain ⟨h1, h2, h3, _⟩ := prodOk_spec.1 hh
    rcases h with h | h | h
    · rw [h] at h1; cases h1
    · rw [h] at h2; cases h2
    · exact absurd h3 h
end Go.Proofs.Ytdejmfkpohgamaa
set_option linter.unusedSimpArgs false
set_option linter.unusedVariables false
namespace Go.Proofs.Ytdejmfkpohgamaa
open Go.RowKit
def encI (x : Int) : Value := .int .i64 x
def OwnRowsZ (w : World) (B U : Nat) (e e' : TypeId) (v : Value) (xss : List (List Int)) (z : Value) : Prop :=
  ∃ rs, Own w B e v rs ∧ rs.length = xss.length ∧ (∀ i r, rs[i]? = some r → Own w B e' r ((xss.getD i []).map (Value.int .i64)) ∧ ∀ k, r.ownBlock = some k → k < U ∧ z.ownBlock ≠ some k) ∧
    ∀ (i j : Nat) (r r' : Value), rs[i]? = some r → rs[j]? = some r' → i ≠ j → ∀ k, r.ownBlock = some k → r'.ownBlock ≠ some k
section
variable {w w' : World} {B U : Nat} {e e' : TypeId} {v z : Value} {xss : List (List Int)}
theorem OwnRowsZ.nil (w : World) (B U : Nat) (e e' : TypeId) (z : Value) : OwnRowsZ w B U e e' (.slice none 0 0) [] z := ⟨[], Own.nil _ _ _, rfl, by simp, by simp⟩
theorem OwnRowsZ.to (h : OwnRowsZ w B U e e' v xss z) : OwnRows w B U e e' v xss := by
  obtain ⟨rs, h1, h2, h3, h4⟩ := h
  exact ⟨rs, h1, h2, fun i r hr => ⟨(h3 i r hr).1, fun k hk => ((h3 i r hr).2 k hk).1⟩, h4⟩
theorem OwnRowsZ.ext (h : OwnRowsZ w B U e e' v xss z) (x : Ext w w') : OwnRowsZ w' B U e e' v xss z := by
  obtain ⟨rs, h1, h2, h3, h4⟩ := h
  exact ⟨rs, h1.ext x, h2, fun i r hr => ⟨(h3 i r hr).1.ext x, (h3 i r hr).2⟩, h4⟩
theorem OwnRowsZ.up {U' : Nat} (h : OwnRowsZ w B U e e' v xss z) (hU : U ≤ U') : OwnRowsZ w B U' e e' v xss z := by
  obtain ⟨rs, h1, h2, h3, h4⟩ := h
  exact ⟨rs, h1, h2, fun i r hr => ⟨(h3 i r hr).1, fun k hk => ⟨Nat.lt_of_lt_of_le ((h3 i r hr).2 k hk).1 hU, ((h3 i r hr).2 k hk).2⟩⟩, h4⟩
theorem OwnRowsZ.now (h : OwnRowsZ w B U e e' v xss z) : OwnRowsZ w B w.heap.size e e' v xss z := by
  obtain ⟨rs, h1, h2, h3, h4⟩ := h
  exact ⟨rs, h1, h2, fun i r hr => ⟨(h3 i r hr).1, fun k hk => ⟨((h3 i r hr).1.lt k hk).2, ((h3 i r hr).2 k hk).2⟩⟩, h4⟩
theorem OwnRowsZ.mapped {κ : Type} {enc : κ → Value} {b : Nat} {xs : List κ} (h : OwnRowsZ w B U e e' v xss z) (hm : MapN enc w b xs) (hg : w.grownBy w' (some b)) : OwnRowsZ w' B U e e' v xss z := by
  obtain ⟨rs, h1, h2, h3, h4⟩ := h
  exact ⟨rs, h1.mapped hm hg, h2, fun i r hr => ⟨(h3 i r hr).1.mapped hm hg, (h3 i r hr).2⟩, h4⟩
theorem OwnRowsZ.apart {B' : Nat} {u : Value} {us : List Value} (h : OwnRowsZ w B U e e' v xss z) (ho : Own w B' e' u us) (hg : w.grownBy w' u.ownBlock) (hB : U ≤ B') (hne : e' ≠ e) : OwnRowsZ w' B U e e' v xss z := by
  obtain ⟨rs, h1, h2, h3, h4⟩ := h
  refine ⟨rs, h1.owned ho hg hne, h2, fun i r hr => ⟨(h3 i r hr).1.grown hg (fun k hk hc => ?_), (h3 i r hr).2⟩, h4⟩
  have := ((h3 i r hr).2 k hk).1
  have := (ho.lt k hc).1
  omega
theorem OwnRowsZ.grow {B' : Nat} {z' : Value} {us : List Value} (h : OwnRowsZ w B U e e' v xss z) (ho : Own w B' e' z us) (hg : w.grownBy w' z.ownBlock) (hf : ∀ k, z'.ownBlock = some k → z.ownBlock = some k ∨ w.heap.size ≤ k) (hne : e' ≠ e) : OwnRowsZ w' B U e e' v xss z' := by
  obtain ⟨rs, h1, h2, h3, h4⟩ := h
  refine ⟨rs, h1.owned ho hg hne, h2, fun i r hr => ⟨(h3 i r hr).1.grown hg (fun k hk hc => ((h3 i r hr).2 k hk).2 hc), fun k hk => ⟨((h3 i r hr).2 k hk).1, fun hc => ?_⟩⟩, h4⟩
  rcases hf k hc with h5 | h5
  · exact ((h3 i r hr).2 k hk).2 h5
  · have := ((h3 i r hr).1.lt k hk).2; omega
theorem OwnRowsZ.open (h : OwnRowsZ w B U e e' v xss z) (hne : e ≠ e') : ∃ rs, Own w B e v rs ∧ rs.length = xss.length ∧
    ∀ r xs w1 v' w', Ext w w1 → Own w1 U e' r (xs.map (Value.int .i64)) → Apart z r → B ≤ U → Own w' B e v' (rs ++ [r]) → w1.grownBy w' v.ownBlock → OwnRowsZ w' B w'.heap.size e e' v' (xss ++ [xs]) z := by
  obtain ⟨rs, h1, h2, h3, h4⟩ := h
  refine ⟨rs, h1, h2, fun r xs w1 v' w' x hr ha hBU hv hg => ?_⟩
  have hv1 := h1.ext x
  have hr' := hr.owned hv1 hg hne
  have hrow : ∀ i q, (rs ++ [r])[i]? = some q → (rs[i]? = some q ∧ i < rs.length) ∨ (i = rs.length ∧ q = r) := by
    intro i q hq
    rw [List.getElem?_append] at hq
    split at hq
    · exact .inl ⟨hq, by assumption⟩
    · right
      have : i - rs.length = 0 := by
        rcases Nat.eq_zero_or_pos (i - rs.length) with h | h
        · exact h
        · rw [List.getElem?_eq_none (by simp; omega)] at hq; cases hq
      rw [this] at hq
      simp at hq
      exact ⟨by omega, hq.symm⟩
  refine ⟨rs ++ [r], hv, by simp [h2], fun i q hq => ?_, fun i j q q' hq hq' hij k hk hk' => ?_⟩
  · rcases hrow i q hq with ⟨hq, hlt⟩ | ⟨rfl, rfl⟩
    · have e1 : (xss ++ [xs]).getD i [] = xss.getD i [] := by
        simp [List.getElem?_append, show i < xss.length by omega]
      rw [e1]
      have ho := ((h3 i q hq).1.ext x).owned hv1 hg hne
      exact ⟨ho, fun k hk => ⟨(ho.lt k hk).2, ((h3 i q hq).2 k hk).2⟩⟩
    · have e1 : (xss ++ [xs]).getD rs.length [] = xs := by
        simp [List.getElem?_append, h2]
      rw [e1]
      exact ⟨hr'.mono hBU, fun k hk => ⟨(hr'.lt k hk).2, fun hc => ha k hc hk⟩⟩
  · rcases hrow i q hq with ⟨hq1, _⟩ | ⟨hi1, hq1⟩ <;> rcases hrow j q' hq' with ⟨hq2, _⟩ | ⟨hj1, hq2⟩
    · exact h4 i j q q' hq1 hq2 hij k hk hk'
    · have a1 := ((h3 i q hq1).2 k hk).1
      have a2 := (hr.lt k (hq2 ▸ hk')).1
      omega
    · have a1 := ((h3 j q' hq2).2 k hk').1
      have a2 := (hr.lt k (hq1 ▸ hk)).1
      omega
    · exact hij (by omega)
end
theorem Sq.insert {P : Program} {N : Nat} {ops : Array Oper} {Q : Exit → Act → World → Prop} {rest : List Oper} {l : Slots} {w : World} {ty : TypeId} {pos : String} {after : Array Edge} {g : Option (Nat × Bool)}
    {κ : Type} [DecidableEq κ] {enc : κ → Value} {b : Nat} {xs : List κ} {t : TypeId} {m x y : Operand} {k : κ} {n : Int} (ht : KeyT P t enc) (hm : MapN enc w b xs) (hg : On ops l g) (hx : ev l m = some (.map (some b))) (hk : ev l x = some (enc k)) (hy : ev l y = some (.int .i64 n)) (hn : n = xs.length) (hin : k ∉ xs)
    (h : ∀ w', w.grownBy w' (some b) → MapN enc w' b (xs ++ [k]) → Sq P N ops Q rest l w') : Sq P N ops Q (⟨none, .insert t m x y, ty, pos, after, g⟩ :: rest) l w := by
  obtain ⟨kt, et, kd, h1, h2, h3, h4, h5⟩ := ht.types
  obtain ⟨es, c, hb, hes⟩ := hm
  have hf := findKey_num (P := P) (w := w) h2 h3 k hes
  rw [if_neg hin] at hf
  have hs := MapKept.heap_set (o' := .map (es.push { key := enc k, val := .int .i64 n, born := c }) (c + 1)) hb
  refine .unit (w' := { w with heap := w.heap.setIfInBounds b (.map (es.push { key := enc k, val := .int .i64 n, born := c }) (c + 1)) }) hg rfl (fun a ha => ?_) (h _ ⟨rfl, rfl, rfl, by simp, fun j _ hne => hs.2 j (fun e => hne (congrArg some e))⟩ ⟨_, _, hs.1, ?_⟩)
  · simp [execOp, Instr.mapUpdate, ha.ev hx, ha.ev hk, ha.ev hy, run_underlying h1, MapKept.run_getObj_map hb, MapKept.run_checkKey h2 (h5 k), hf, MapKept.run_setObj_map _ hb, Result.andThen]
  · rw [Array.toList_push, List.map_append, hes, List.zipIdx_append, List.map_append, hn]
    simp
theorem keyI {P : Program} {t kt et : TypeId} (h1 : P.underlying t = some (.map kt et)) (h2 : P.underlying kt = some (.int .i64)) (h3 : ∀ w, (zeroValue et).run P w = .ok (.int .i64 0) w) : KeyT P t encI :=
  ⟨kt, et, .int .i64, h1, h2, fun x y => by simp only [Instr.sameNow, encI, if_true]; first | done | (congr 1; first | done | (rw [Bool.eq_iff_iff]; simp)), h3, fun x => rfl⟩
def Clo (P : Program) (w0 : World) (fv : Value) (D : Int → Prop) (f : Int → Int → Int) : Prop :=
  ∃ k fn, ∃ cs : List Value, fv = .func (.func k) #[] cs.toArray ∧ Fn P k fn ∧ ∀ w q x, Ext w0 w → D q → 0 ≤ x ∧ x < 6 → Ret P k ([Value.int .i64 q, Value.int .i64 x] ++ cs).toArray w fun v w' => v = .int .i64 (f q x) ∧ Ext w w'
theorem ord_lim {f : Int → Int → Int} {s : Int} {L : List Int} {i k : Nat} {q : Int} {lim : Int} (hq : (bfs f s L i)[i]? = some q) (hi : i + 1 ≤ 200) (hl : (((mid f s L i q k).length : Nat) : Int) = lim) (hk : k < L.length) (hn : f q (L.getD k 0) ∉ mid f s L i q k) : ¬ (((ord f s L).length : Nat) : Int) ≤ lim := by
  have h1 := (mid_prefix (k := k + 1) hq).length_le
  rw [mid_succ hk, addNode_F hn, List.length_append] at h1
  have h2 := (ord_prefix (f := f) (s := s) (L := L) hi).length_le
  simp only [List.length_singleton] at h1
  omega
theorem ord_fin {f : Int → Int → Int} {s : Int} {L : List Int} {i : Nat} {lim : Int} (h : (bfs f s L i).length ≤ i) (hi : i ≤ 200) (hl : (((bfs f s L i).length : Nat) : Int) ≤ lim) : bfs f s L i = ord f s L ∧ ((((ord f s L).length : Nat) : Int) ≤ lim) := by
  have e := ord_done h hi
  exact ⟨e, by rw [← e]; exact hl⟩
theorem rowsAt_fin {f : Int → Int → Int} {s : Int} {L : List Int} {i : Nat} (h : (bfs f s L i).length ≤ i) (hi : i ≤ 200) : rowsAt f L (bfs f s L i) i = (ord f s L).map (rowAt f L (ord f s L)) := by
  rw [ord_done h hi]
  unfold rowsAt
  rw [List.take_of_length_le (by rw [← ord_done h hi]; exact h)]
theorem mid_at {f : Int → Int → Int} {s : Int} {L : List Int} {i k : Nat} {q : Int} (hq : (bfs f s L i)[i]? = some q) : (mid f s L i q k).getD i 0 = q := by
  obtain ⟨t, ht⟩ := mid_prefix0 (f := f) (s := s) (L := L) i q k
  have hi := (List.getElem?_eq_some_iff.1 hq).1
  rw [← ht, List.getD_eq_getElem?_getD, List.getElem?_append_left hi, hq]
  rfl
theorem Ints.low {w : World} {e : TypeId} {v : Value} {xs : List Int} (h : Ints w e v xs) (hx : 0 < xs.length) : ∀ k, v.ownBlock = some k → k < w.heap.size := by
  intro k hk
  rcases h with ⟨h0, _⟩ | ⟨b, o, c, cur, fr, rfl, hb, _⟩
  · rw [List.map_eq_nil_iff] at h0; subst h0; simp at hx
  · simp [Value.ownBlock] at hk
    subst hk
    exact lt_of_block hb
theorem getD_app {α : Type} {xs ys : List α} {d : α} {k : Nat} (h : k < xs.length) : (xs ++ ys).getD k d = xs.getD k d := by
  rw [List.getD_eq_getElem?_getD, List.getElem?_append_left h, ← List.getD_eq_getElem?_getD]
theorem Small.push2 {n m : Nat} {a : A} {row : List Int} {b : Bool} (h : Small n a) (hm : n + 1 ≤ m) (hr : row.length ≤ m) : Small m ⟨a.al, a.next ++ [row], a.acc ++ [b]⟩ := by
  have h1 := h.2.1
  have h2 := h.2.2.1
  refine ⟨h.1, by simp only [List.length_append, List.length_singleton]; omega, by simp only [List.length_append, List.length_singleton]; omega, fun r hr' => ?_⟩
  rcases List.mem_append.1 hr' with h3 | h3
  · have := h.2.2.2 r h3; omega
  · rw [List.mem_singleton.1 h3]; exact hr
theorem Small.accs {n m : Nat} {a : A} {ys : List Bool} (h : Small n a) (hm : n ≤ m) (hy : ys.length = a.acc.length) : Small m ⟨a.al, a.next, ys⟩ :=
  ⟨h.1, Nat.le_trans h.2.1 hm, by have := h.2.2.1; show ys.length ≤ m; omega, fun r hr => Nat.le_trans (h.2.2.2 r hr) hm⟩
theorem run_loadAgg {P : Program} {b n : Nat} {u : TypeId} {w : World} {cs : List Value} (hb : Blk w b u cs) (hn : cs.length = n) : (loadCells ⟨b, 0, none⟩ n).run P w = .ok cs.toArray w := by
  rw [← hn]
  refine run_loadCells_list _ _ _ fun j v hv => ?_
  rw [addr_add, hb.cell]
  simpa using hv
theorem Eq.retCCT {P : Program} {fn : Func} {N t t' t'' b b' n n' : Nat} {ty ty' u u' : TypeId} {l : Slots} {w : World} {cs cs' : List Value} {v'' : Value} {R : Value → World → Prop} (hr : fn.results = #[.cell t ty, .cell t' ty', .tmp t'']) (hv : look l t = some (.pointer (some ⟨b, 0, none⟩))) (hv' : look l t' = some (.pointer (some ⟨b', 0, none⟩))) (hv'' : look l t'' = some v'') (h1 : Agg P ty n) (h1' : Agg P ty' n') (hb : Blk w b u cs) (hb' : Blk w b' u' cs') (hn : cs.length = n) (hn' : cs'.length = n') (h : R (.tuple #[.agg cs.toArray, .agg cs'.toArray, v'']) w) :
    Eq N (bodyPost P fn fun e w' => ∃ v, e = .returned v ∧ R v w') .ret l w := fun a ha => by
  have hl := run_loadAgg (P := P) hb hn
  have hl' := run_loadAgg (P := P) hb' hn'
  have hs := ha.slot _ _ hv
  have hs' := ha.slot _ _ hv'
  have hs'' := ha.slot _ _ hv''
  refine bodyPost_ret (v := .tuple #[.agg cs.toArray, .agg cs'.toArray, v'']) ?_ ha.defers ⟨_, rfl, h⟩
  simp only [results, hr]
  simp only [Array.getD_eq_getD_getElem?] at hs hs' hs''
  simp [hs, hs', hs'', asAddr, loadVar, h1.agg, h1.size, h1'.agg, h1'.size, hl, hl']
section three
variable {P : Program} {N : Nat} {ops : Array Oper} {Q : Exit → Act → World → Prop} {S : World → Prop} {k fuel : Nat} {listed : Array Bool} {l : Slots} {w : World}
theorem Gq.three {o o' o'' : Oper} (i j m : Nat) (hi : ops[i]? = some o) (hj : ops[j]? = some o') (hm : ops[m]? = some o'') (hr : (Region.ready .any ops listed == [i, j, m]) = true) (h : Sq P N ops (AfterG P ops Q S k fuel i listed) [o] l w) (h' : Sq P N ops (AfterG P ops Q S k fuel j listed) [o'] l w) (h'' : Sq P N ops (AfterG P ops Q S k fuel m listed) [o''] l w) : Gq P N ops Q S k (fuel + 1) listed l w := by
  intro a ha
  have hr' : Region.ready .any ops listed = [i, j, m] := by simpa using hr
  refine ⟨fun h0 => absurd (hr' ▸ h0) (by simp), fun n hn => ?_⟩
  rw [hr'] at hn
  rcases List.mem_cons.1 hn with rfl | hn
  · exact wpOp_of_list (Q' := AfterG P ops Q S k fuel _ listed) hi (fun _ _ => rfl) (fun _ _ _ => rfl) (fun _ _ => rfl) (h a ha)
  · rcases List.mem_cons.1 hn with rfl | hn
    · exact wpOp_of_list (Q' := AfterG P ops Q S k fuel _ listed) hj (fun _ _ => rfl) (fun _ _ _ => rfl) (fun _ _ => rfl) (h' a ha)
    · obtain rfl : n = m := by simpa using hn
      exact wpOp_of_list (Q' := AfterG P ops Q S k fuel _ listed) hm (fun _ _ => rfl) (fun _ _ _ => rfl) (fun _ _ => rfl) (h'' a ha)
end three
theorem Eq.ret3 {P : Program} {fn : Func} {N t u x : Nat} {l : Slots} {w : World} {v v' v'' : Value} {R : Value → World → Prop} (hr : fn.results = #[.tmp t, .tmp u, .tmp x]) (hv : look l t = some v) (hv' : look l u = some v') (hv'' : look l x = some v'') (h : R (.tuple #[v, v', v'']) w) :
    Eq N (bodyPost P fn fun e w' => ∃ v, e = .returned v ∧ R v w') .ret l w := fun a ha =>
  bodyPost_ret (v := .tuple #[v, v', v'']) (by
    have e : (results fn a.tmps).run P w = .ok (.tuple #[a.tmps.getD t undef, a.tmps.getD u undef, a.tmps.getD x undef]) w := by simp [results, hr]
    rw [e, ha.slot _ _ hv, ha.slot _ _ hv', ha.slot _ _ hv'']) ha.defers ⟨_, rfl, h⟩
def rows2 (ps : List (Int × Int)) : List (List Value) := ps.map fun p => [Value.int .i64 p.1, Value.int .i64 p.2]
theorem rows2_length (ps : List (Int × Int)) : (rows2 ps).length = ps.length := List.length_map _
theorem rows2_snoc (ps : List (Int × Int)) (p : Int × Int) : rows2 (ps ++ [p]) = rows2 ps ++ [[Value.int .i64 p.1, Value.int .i64 p.2]] := by simp [rows2]
def idxG {α : Type} [DecidableEq α] (ps : List α) (p : α) : Nat := ps.idxOf p
theorem idxG_here {α : Type} [DecidableEq α] {xs ys zs : List α} {n : α} (e : xs = ys ++ n :: zs) (hp : n ∉ ys) : idxG xs n = ys.length := by
  unfold idxG
  rw [e, List.idxOf_append, if_neg hp]
  simp
def findI (ps : List (Int × Int)) (p : Int × Int) : Int := if p ∈ ps then (idxG ps p : Int) else -1
theorem findI_in {ps : List (Int × Int)} {p : Int × Int} (h : p ∈ ps) : findI ps p = (idxG ps p : Int) := if_pos h
theorem findI_out {ps : List (Int × Int)} {p : Int × Int} (h : p ∉ ps) : findI ps p = -1 := if_neg h
theorem findI_neg {ps : List (Int × Int)} {p : Int × Int} (h : findI ps p < 0) : p ∉ ps := fun hc => by rw [findI_in hc] at h; omega
theorem findI_pos {ps : List (Int × Int)} {p : Int × Int} (h : ¬ findI ps p < 0) : p ∈ ps := Classical.byContradiction fun hc => by rw [findI_out hc] at h; omega
section wid2
variable {w : World} {B : Nat} {e : TypeId} {v : Value} {ps : List (Int × Int)}
theorem Wid.pair (h : Wid w B e 2 v (rows2 ps)) {i : Int} (h0 : 0 ≤ i) (h1 : i < ps.length) : ∃ g c, v = .slice (some ⟨g, 0, none⟩) ps.length c := by
  obtain ⟨g, c, hv, _⟩ := h.at h0 (by rw [rows2_length]; exact h1)
  rw [rows2_length] at hv
  exact ⟨g, c, hv⟩
theorem Wid.cell2 {g c : Nat} (hv : v = .slice (some ⟨g, 0, none⟩) ps.length c) (h : Wid w B e 2 v (rows2 ps)) {i : Int} (h0 : 0 ≤ i) (h1 : i < ps.length) : w.cell? ⟨g, i.toNat * 2 + 0, none⟩ = some (.int .i64 (ps.getD i.toNat (0, 0)).1) ∧ w.cell? ⟨g, i.toNat * 2 + 1, none⟩ = some (.int .i64 (ps.getD i.toNat (0, 0)).2) := by
  obtain ⟨g', c', hv', _, _, hc⟩ := h.at h0 (by rw [rows2_length]; exact h1)
  rw [hv] at hv'
  injection hv' with hv' _ _
  injection hv' with hv'
  injection hv' with hv' _ _
  subst hv'
  have hr : (rows2 ps).getD i.toNat [] = [Value.int .i64 (ps.getD i.toNat (0, 0)).1, Value.int .i64 (ps.getD i.toNat (0, 0)).2] := by
    have hl : i.toNat < ps.length := by omega
    unfold rows2
    rw [List.getD_eq_getElem?_getD, List.getElem?_map, List.getElem?_eq_getElem hl, List.getD_eq_getElem?_getD, List.getElem?_eq_getElem hl]
    rfl
  rw [hc 0 (by decide), hc 1 (by decide), hr]
  exact ⟨rfl, rfl⟩
theorem Wid.shape {n : Nat} {rows : List (List Value)} (h : Wid w B e n v rows) : ∃ p c, v = .slice p rows.length c := by
  rcases h.cases with ⟨rfl, rfl⟩ | ⟨g, cap, cs, rfl, _⟩
  · exact ⟨none, 0, rfl⟩
  · exact ⟨_, _, rfl⟩
end wid2
section wid3
variable {P : Program} {N : Nat} {ops : Array Oper} {Q : Exit → Act → World → Prop} {rest : List Oper} {l : Slots} {w : World}
variable {d : Nat} {ty : TypeId} {pos : String} {after : Array Edge} {g : Option (Nat × Bool)}
theorem Still.ixV {t e : TypeId} {z : Value} {n gb len c : Nat} {x ix : Operand} {k : IntKind} {i : Int} {v : Value} (hs : SlW P t e z n) (hv : v = .slice (some ⟨gb, 0, none⟩) len c) (hx : ev l x = some v) (hix : ev l ix = some (.int k i)) (hi : 0 ≤ i ∧ i < (len : Int)) :
    Still P N l ⟨some d, .indexAddr t x ix, ty, pos, after, g⟩ (.pointer (some ⟨gb, i.toNat * n, none⟩)) w := Still.ixW hs (by rw [hx, hv]) hix hi
theorem Sq.lenWid {t e : TypeId} {n B : Nat} {x : Operand} {v : Value} {rows : List (List Value)} (hr : Wid w B e n v rows) (hg : On ops l g) (hN : Nat.blt d N = true) (ht : P.underlying t = some (.slice (P.elem t))) (hx : ev l x = some v)
    (h : Sq P N ops Q rest ((d, .int .i64 rows.length) :: l) w) : Sq P N ops Q (⟨some d, .call ⟨.builtin .len, #[x], #[t]⟩, ty, pos, after, g⟩ :: rest) l w := by
  obtain ⟨p, c, rfl⟩ := hr.shape
  exact .len hg hN ht hx h
end wid3
theorem notin_snoc2 {xs : List (Int × Int)} {n : Int × Int} {k : Nat} (hp : n ∉ xs.take k) (hk : k < xs.length) (hne : ¬ xs.getD k (0, 0) = n) : n ∉ xs.take (k + 1) := by
  rw [take_snoc (0, 0) hk]
  simp only [List.mem_append, List.mem_singleton, not_or]
  exact ⟨hp, fun h => hne h.symm⟩
theorem idx_here2 {xs : List (Int × Int)} {n : Int × Int} {k : Nat} (hp : n ∉ xs.take k) (hk : k < xs.length) (he : xs.getD k (0, 0) = n) : findI xs n = k := by
  have e : xs = xs.take k ++ xs.drop k := (List.take_append_drop k xs).symm
  have hd : xs.drop k = n :: xs.drop (k + 1) := by
    rw [List.drop_eq_getElem_cons hk]
    congr 1
    rw [List.getD_eq_getElem?_getD, List.getElem?_eq_getElem hk] at he
    exact he
  have hm : n ∈ xs := he ▸ getD_mem hk
  rw [findI_in hm]
  have : idxG xs n = k := by
    rw [hd] at e
    rw [idxG_here e hp, List.length_take]
    omega
  rw [this]
theorem find_none2 {xs : List (Int × Int)} {n : Int × Int} {k : Nat} (hp : n ∉ xs.take k) (hk : xs.length ≤ k) : findI xs n = -1 := findI_out (by rwa [List.take_of_length_le hk] at hp)
theorem mid_at2 {f : Int × Int → Int → Int × Int} {s : Int × Int} {L : List Int} {i k : Nat} {q : Int × Int} (hq : (bfs f s L i)[i]? = some q) : (mid f s L i q k).getD i (0, 0) = q := by
  obtain ⟨t, ht⟩ := mid_prefix0 (f := f) (s := s) (L := L) i q k
  have hi := (List.getElem?_eq_some_iff.1 hq).1
  rw [← ht, List.getD_eq_getElem?_getD, List.getElem?_append_left hi, hq]
  rfl
theorem addAll_le {α : Type} [DecidableEq α] : ∀ (xs ns : List α), (addAll ns xs).length ≤ ns.length + xs.length
  | [], ns => Nat.le_refl _
  | x :: xs, ns => by
    rw [addAll_cons]
    have h := addAll_le xs (addNode ns x)
    have h2 : (addNode ns x).length ≤ ns.length + 1 := by
      unfold addNode
      split
      · omega
      · simp
    simp only [List.length_cons]
    omega
theorem mid_le {α : Type} [DecidableEq α] {f : α → Int → α} {s : α} {L : List Int} {i k : Nat} {q : α} : (mid f s L i q k).length ≤ (bfs f s L i).length + k := by
  unfold mid
  refine Nat.le_trans (addAll_le _ _) ?_
  rw [List.length_map, List.length_take]
  omega
theorem take_bfs2 {f : Int × Int → Int → Int × Int} {s : Int × Int} {L : List Int} {i : Nat} {q : Int × Int} (hq : (bfs f s L i)[i]? = some q) : (bfs f s L (i + 1)).take (i + 1) = (bfs f s L i).take i ++ [q] := by
  have hi := (List.getElem?_eq_some_iff.1 hq).1
  obtain ⟨t, ht⟩ := bfs_prefix1 (f := f) (s := s) (L := L) i
  rw [← ht, List.take_append_of_le_length (by omega), List.take_succ_eq_append_getElem hi]
  rw [List.getElem?_eq_getElem hi] at hq
  rw [Option.some.inj hq]
theorem rowsAt_fin2 {f : Int × Int → Int → Int × Int} {s : Int × Int} {L : List Int} {i : Nat} (h : (bfs f s L i).length ≤ i) (hi : i ≤ 200) : rowsAt f L (bfs f s L i) i = (ord f s L).map (rowAt f L (ord f s L)) := by
  rw [ord_done h hi]
  unfold rowsAt
  rw [List.take_of_length_le (by rw [← ord_done h hi]; exact h)]
theorem Wid.low {w : World} {B n : Nat} {e : TypeId} {v : Value} {rows : List (List Value)} (h : Wid w B e n v rows) : ∀ k, v.ownBlock = some k → k < w.heap.size := fun k hk => (h.lt k hk).2
theorem Wid.storedN {w w' : World} {B n gb U : Nat} {e : TypeId} {v : Value} {rows : List (List Value)} (h : Wid w B e n v rows) (hg : w.grownBy w' (some gb)) (hl : ∀ k, v.ownBlock = some k → k < U) (hU : U ≤ gb) : Wid w' B e n v rows :=
  h.grown hg fun k hk hc => by injection hc with hc; have := hl k hk; omega
theorem Blk.widN {w w' : World} {b U : Nat} {t : TypeId} {cs : List Value} {v : Value} (h : Blk w b t cs) (hg : w.grownBy w' v.ownBlock) (hl : ∀ k, v.ownBlock = some k → k < U) (hU : U ≤ b) : Blk w' b t cs :=
  h.grown hg fun hc => by have := hl b hc; omega
theorem prodOk_long {a b : A} {k : Int} (h : 12 < (ord (step2 a b) (0, 0) (letters (orI a.al b.al))).length) : prodOk a b k = false := by
  cases hh : prodOk a b k with
  | false => rfl
  | true => exact absurd (prodOk_spec.1 hh).2.2.2 (by unfold ord2; omega)
end Go.Proofs.Ytdejmfkpohgamaa
set_option linter.unusedSimpArgs false
set_option linter.unusedVariables false
namespace Go.Proofs.Ytdejmfkpohgamaa
set_option maxRecDepth 100000
theorem slw66 : SlW Try.prog 66 65 (.agg #[.int .i64 0, .int .i64 0]) 2 := ⟨by kernel_rfl, ⟨_, rfl, by kernel_rfl, by kernel_rfl, by decide⟩, by kernel_rfl, by decide⟩
theorem key94 : KeyT Try.prog 94 encI := keyI (kt := 3) (et := 3) (by kernel_rfl) (by kernel_rfl) zero3
theorem slw116 : SlW Try.prog 116 118 (.agg #[.int .i64 0, .int .i64 0, .slice none 0 0]) 3 := ⟨by kernel_rfl, ⟨_, rfl, by kernel_rfl, by kernel_rfl, by decide⟩, by kernel_rfl, by decide⟩
end Go.Proofs.Ytdejmfkpohgamaa
set_option linter.unusedSimpArgs false
set_option linter.unusedVariables false
namespace Go.Proofs.Ytdejmfkpohgamaa
open Go.RowKit
set_option maxRecDepth 100000 in
theorem numbered_c (w0 : World) (f : Int → Int → Int) (s : Int) (L : List Int) (lv fv : Value) (lim : Int) (D : Int → Prop) (hlim : 1 ≤ lim ∧ lim ≤ 1000) (hx : Ints w0 3 lv L) (hLl : L.length ≤ 100) (hL : ∀ x ∈ L, 0 ≤ x ∧ x < 6) (hD0 : D s) (hD : ∀ q, D q → ∀ x ∈ L, D (f q x)) (hM0 : ∀ i, (bfs f s L i).length ≤ 150) (hclo : Clo Try.prog w0 fv D f) : Ret Try.prog 49 #[Value.int .i64 s, lv, Value.int .i64 lim, fv] w0 (fun v w => (∃ nv xv, v = .tuple #[nv, xv, .bool (decide ((((ord f s L).length : Nat) : Int) ≤ lim))] ∧ Own w w0.heap.size 3 nv ((if (((ord f s L).length : Nat) : Int) ≤ lim then ord f s L else []).map (Value.int .i64)) ∧ OwnRows w w0.heap.size w.heap.size 56 3 xv (if (((ord f s L).length : Nat) : Int) ≤ lim then (ord f s L).map (rowAt f L (ord f s L)) else [])) ∧ Ext w0 w) := by
  have E := Ext.refl w0
  obtain ⟨kf, fnf, cf, hfv, hFn, hcall⟩ := hclo
  refine Ret.of (args := [Value.int .i64 s, lv, Value.int .i64 lim, fv]) Try.func49 rfl rfl rfl ?_
  rintro _ rfl
  show Cq _ _ _ _ [(0, Value.int .i64 s), (1, lv), (2, Value.int .i64 lim), (3, fv)] _
  refine Cq.seq ?_
  refine Cq.region ?_
  refine Sq.assign .plain rfl rfl ?_
  refine Sq.assign .plain rfl rfl ?_
  refine Sq.assign .plain rfl rfl ?_
  refine Sq.nil ?_
  refine Eq.next ?_
  refine Cq.seq ?_
  refine Cq.region ?_
  refine Sq.move .plain rfl rfl ?_
  refine Sq.lit sl56 rfl rfl .plain rfl rfl (one_cons rfl one_nil) (fun b1 w2 e3 hlo4 ho5 _ => ?_)
  have hs6 := Below.size e3
  replace E := E.trans e3
  have hno := ho5 w0.heap.size (by omega)
  refine Sq.assign .plain rfl rfl ?_
  refine Sq.nil ?_
  refine Eq.next ?_
  refine Cq.seq ?_
  refine Cq.region ?_
  refine Sq.makeMap encI .plain rfl (fun mb w7 e8 hM hlo9 => ?_)
  have hs10 := Below.size e8
  replace E := E.trans e8
  replace hno := hno.ext e8
  have hmb : w0.heap.size ≤ mb := by omega
  refine Sq.move .plain rfl rfl ?_
  refine Sq.insert key94 hM .plain rfl (k := s) rfl rfl rfl (by simp) (fun w11 g12 hm13 => ?_)
  have hs14 := World.grownBy.size g12
  replace E := E.mapped g12 (by omega)
  replace hno := hno.mapped hM g12
  replace hM := hm13
  simp only [List.nil_append] at hM
  refine Sq.move .plain rfl rfl ?_
  refine Sq.assign .plain rfl rfl ?_
  refine Sq.nil ?_
  refine Eq.next ?_
  refine Cq.seq ?_
  refine Cq.region ?_
  refine Sq.assign .plain rfl rfl ?_
  refine Sq.nil ?_
  refine Eq.next ?_
  refine Cq.seq ?_
  refine Cq.seq ?_
  refine Cq.region ?_
  refine Sq.assign .plain rfl rfl ?_
  refine Sq.nil ?_
  refine Eq.next ?_
  refine Cq.block ?_
  refine Cq.loop (fun nn w ls => ∃ (i : Int), ∃ (nv : Value), ∃ (xv : Value), ls = [(1, lv), (2, Value.int .i64 lim), (3, fv), (11, nv), (12, Value.map (some mb)), (13, xv), (14, Value.int .i64 i)] ∧ (0 ≤ i ∧ i ≤ (bfs f s L i.toNat).length) ∧ Own w w0.heap.size 3 nv ((bfs f s L i.toNat).map (Value.int .i64)) ∧ MapN encI w mb (bfs f s L i.toNat) ∧ OwnRowsZ w w0.heap.size w.heap.size 56 3 xv (rowsAt f L (bfs f s L i.toNat) i.toNat) nv ∧ (((bfs f s L i.toNat).length : Nat) : Int) ≤ lim ∧ Ext w0 w ∧ nn = (151 - i).toNat) _ _ ⟨0, _, _, rfl, ⟨by omega, by omega⟩, hno, hM, OwnRowsZ.nil _ _ _ _ _ _, by show ((1 : Nat) : Int) ≤ lim; omega, E, rfl⟩ (.cons rfl (.cons rfl (.cons rfl (.cons rfl (.cons rfl (.cons rfl (.cons rfl (.nil)))))))) ?_
  rintro nn wl1 ls ⟨i, nv, xv, rfl, hi, hno, hM, hrs, hlm, E, rfl⟩
  have hs15 := Below.size E
  have hMi := hM0 i.toNat
  have hMi1 := hM0 (i.toNat + 1)
  refine Cq.seq ?_
  refine Cq.seq ?_
  refine Cq.region ?_
  refine Sq.move .plain rfl rfl ?_
  refine Sq.move .plain rfl rfl ?_
  refine Sq.lenInts (Own.row hno) .plain rfl und56 rfl ?_
  refine Sq.lss .plain rfl rfl rfl ?_
  refine Sq.part (fun c16 => ?_) (fun c16 => ?_)
  · refine Sq.nil ?_
    refine Eq.next ?_
    refine Cq.thn rfl ?_
    refine Cq.skip ?_
    refine Eq.next ?_
    refine Cq.seq ?_
    refine Cq.block ?_
    refine Cq.seq ?_
    refine Cq.region ?_
    refine Sq.assign .plain rfl rfl ?_
    refine Sq.nil ?_
    refine Eq.next ?_
    refine Cq.seq ?_
    refine Cq.seq ?_
    refine Cq.region ?_
    refine Sq.move .plain rfl rfl ?_
    refine Sq.lenInts (hx.ext E) .plain rfl und56 rfl ?_
    refine Sq.move .plain rfl rfl ?_
    refine Sq.nil ?_
    refine Eq.next ?_
    refine Cq.block ?_
    obtain ⟨q, hq⟩ : ∃ q, (bfs f s L i.toNat)[i.toNat]? = some q := ⟨_, List.getElem?_eq_getElem (by omega)⟩
    have hDq : D q := bfs_all hD0 hD _ q (List.mem_of_getElem? hq)
    refine Cq.loop (fun nn w ls => ∃ (k : Int), ∃ (nv2 : Value), ∃ (rv : Value), ls = [(1, lv), (2, Value.int .i64 lim), (3, fv), (11, nv2), (12, Value.map (some mb)), (13, xv), (14, Value.int .i64 i), (15, rv), (32, lv), (33, Value.int .i64 (List.length L : Int)), (34, Value.int .i64 k)] ∧ (0 ≤ k ∧ k ≤ L.length) ∧ wl1.heap.size ≤ w.heap.size ∧ Own w w0.heap.size 3 nv2 ((mid f s L i.toNat q k.toNat).map (Value.int .i64)) ∧ MapN encI w mb (mid f s L i.toNat q k.toNat) ∧ Own w wl1.heap.size 3 rv ((rowTo f L (mid f s L i.toNat q k.toNat) q k.toNat).map (Value.int .i64)) ∧ OwnRowsZ w w0.heap.size wl1.heap.size 56 3 xv (rowsAt f L (bfs f s L i.toNat) i.toNat) nv2 ∧ Apart nv2 rv ∧ (((mid f s L i.toNat q k.toNat).length : Nat) : Int) ≤ lim ∧ Ext w0 w ∧ nn = ((L.length : Int) - k).toNat) _ _ ⟨0, _, _, rfl, by omega, by omega, hno, hM, Own.nil _ _ _, hrs, (Apart.nil _).symm, hlm, E, rfl⟩ (.cons rfl (.cons rfl (.cons rfl (.cons rfl (.cons rfl (.cons rfl (.cons rfl (.cons rfl (.cons rfl (.cons rfl (.cons rfl (.nil)))))))))))) ?_
    rintro nn wl2 ls ⟨k, nv2, rv, rfl, hk, hsz, hno, hM, hro, hrs, hap, hlk, E, rfl⟩
    have hs17 := Below.size E
    have hml := (mid_prefix0 (f := f) (s := s) (L := L) i.toNat q k.toNat).length_le
    have hmh := (mid_prefix (f := f) (s := s) (L := L) (k := k.toNat) hq).length_le
    have hmq := mid_at (k := k.toNat) hq
    have hrl : (rowTo f L (mid f s L i.toNat q k.toNat) q k.toNat).length ≤ L.length := by unfold rowTo; rw [List.length_map, List.length_take]; omega
    refine Cq.seq ?_
    refine Cq.region ?_
    refine Sq.lss .plain rfl rfl rfl ?_
    refine Sq.part (fun c18 => ?_) (fun c18 => ?_)
    · refine Sq.nil ?_
      refine Eq.next ?_
      refine Cq.seq ?_
      refine Cq.thn rfl ?_
      refine Cq.skip ?_
      refine Eq.next ?_
      refine Cq.seq ?_
      refine Cq.block ?_
      refine Cq.seq ?_
      refine Cq.region ?_
      refine Sq.idxInts sl56 one3 (hx.ext E) .plain rfl rfl rfl .plain rfl rfl (by omega) (by omega) ?_
      refine Sq.assign .plain rfl rfl ?_
      refine Sq.nil ?_
      refine Eq.next ?_
      refine Cq.seq ?_
      refine Cq.region ?_
      refine Sq.move .plain rfl rfl ?_
      refine Sq.move .plain rfl rfl ?_
      refine Sq.move .plain rfl rfl ?_
      refine Sq.idxInts sl56 one3 (Own.row hno) .plain rfl rfl rfl .plain rfl rfl (by omega) (by omega) ?_
      rw [hmq]
      refine Sq.move .plain rfl rfl ?_
      refine Sq.callC hFn .plain rfl (by rw [← hfv]; rfl) rfl (hcall _ q (L.getD k.toNat 0) E hDq (hL _ (getD_mem (by omega)))) ?_
      rintro _ w19 ⟨rfl, e20⟩
      have hs21 := Below.size e20
      replace E := E.trans e20
      replace hno := hno.ext e20
      replace hM := hM.ext e20
      replace hrs := hrs.ext e20
      replace hro := hro.ext e20
      refine Sq.assign .plain rfl rfl ?_
      refine Sq.nil ?_
      refine Eq.next ?_
      refine Cq.seq ?_
      refine Cq.region ?_
      refine Sq.move .plain rfl rfl ?_
      refine Sq.move .plain rfl rfl ?_
      refine Sq.lookup key94 hM .plain rfl rfl (k := f q (L.getD k.toNat 0)) rfl ?_
      refine Sq.move .plain rfl rfl ?_
      refine Sq.extract .plain rfl rfl rfl ?_
      refine Sq.extract .plain rfl rfl rfl ?_
      refine Sq.assign .plain rfl rfl ?_
      refine Sq.assign .plain rfl rfl ?_
      refine Sq.nil ?_
      refine Eq.next ?_
      refine Cq.seq ?_
      refine Cq.seq ?_
      refine Cq.region ?_
      refine Sq.move .plain rfl rfl ?_
      refine Sq.part (fun hin => ?_) (fun hin => ?_)
      · refine Sq.notT .plain rfl rfl ?_
        refine Sq.nil ?_
        refine Eq.next ?_
        refine Cq.els rfl ?_
        refine Cq.skip ?_
        refine Eq.next ?_
        refine Cq.region ?_
        refine Sq.move .plain rfl rfl ?_
        refine Sq.move .plain rfl rfl ?_
        refine Sq.lit sl56 rfl rfl .plain rfl rfl (one_cons rfl one_nil) (fun b22 w23 e24 hlo25 ho26 hk27 => ?_)
        have hs28 := Below.size e24
        replace E := E.trans e24
        replace hno := hno.ext e24
        replace hM := hM.ext e24
        replace hrs := hrs.ext e24
        replace hro := hro.ext e24
        refine Sq.app1F sl56 hro (one_ints _) (by omega) (by rw [List.length_map]; omega) hk27 rfl .plain rfl rfl rfl (fun v29 w30 ho32 g31 hf33 _ => ?_)
        have hs34 := World.grownBy.size g31
        replace E := E.owned hro g31 (by omega)
        replace hM := hM.owned hro g31
        replace hrs := hrs.apart hro g31 (Nat.le_refl _) (by decide)
        have hap2 := (hap.symm.grow hno hf33).symm
        replace hno := Own.other hno g31 hap.symm
        replace hro := Own.snocI ho32
        replace hap := hap2
        refine Sq.assign .plain rfl rfl ?_
        refine Sq.nil ?_
        refine Eq.end ?_
        refine Eq.next ?_
        refine Cq.region ?_
        refine Sq.add .plain rfl rfl rfl (by omega) ?_
        refine Sq.move .plain rfl rfl ?_
        refine Sq.nil ?_
        have e2 := toNat_succ hk.1
        have e5 := mid_succ (f := f) (s := s) (i := i.toNat) (q := q) (k := k.toNat) (L := L) (by omega)
        have e6 := rowTo_step (f := f) (q := q) (k := k.toNat) (L := L) (by omega) (mid_mem (f := f) (s := s) (i := i.toNat))
        rw [← e5] at e6
        rw [addNode_T hin] at e5
        rw [if_pos hin] at hro
        refine Eq.round _ _ ⟨k + 1, _, _, rfl, by omega, by omega, by rw [e2, e5]; exact hno, by rw [e2, e5]; exact hM, by rw [e2, e6, e5]; exact hro, hrs, hap, by rw [e2, e5]; exact hlk, E, rfl⟩ (by omega) (.cons rfl (.cons rfl (.cons rfl (.cons rfl (.cons rfl (.cons rfl (.cons rfl (.cons rfl (.cons rfl (.cons rfl (.cons rfl (.nil))))))))))))
      refine Sq.notF .plain rfl rfl ?_
      refine Sq.nil ?_
      refine Eq.next ?_
      refine Cq.thn rfl ?_
      refine Cq.seq ?_
      refine Cq.seq ?_
      refine Cq.region ?_
      refine Sq.move .plain rfl rfl ?_
      refine Sq.lenInts (Own.row hno) .plain rfl und56 rfl ?_
      refine Sq.move .plain rfl rfl ?_
      refine Sq.eql .plain rfl rfl rfl ?_
      refine Sq.part (fun hfull => ?_) (fun hfull => ?_)
      · refine Sq.nil ?_
        refine Eq.next ?_
        refine Cq.thn rfl ?_
        refine Cq.seq ?_
        refine Cq.region ?_
        refine Sq.assign .plain rfl rfl ?_
        refine Sq.assign .plain rfl rfl ?_
        refine Sq.assign .plain rfl rfl ?_
        refine Sq.nil ?_
        refine Eq.next ?_
        refine Cq.ret ?_
        refine Eq.pastRet ?_
        refine Eq.pastRet ?_
        refine Eq.outRet ?_
        refine Eq.pastRet ?_
        refine Eq.pastRet ?_
        refine Eq.outRet ?_
        refine Eq.pastRet ?_
        refine Eq.outRet ?_
        refine Eq.pastRet ?_
        refine Eq.pastRet ?_
        refine Eq.outRet ?_
        refine Eq.pastRet ?_
        refine Eq.ret3 rfl rfl rfl rfl ?_
        have e8 := ord_lim hq (by omega) hfull (by omega) hin
        exact ⟨⟨_, _, by rw [decide_eq_false e8], by rw [if_neg e8]; exact Own.nil _ _ _, by rw [if_neg e8]; exact OwnRows.nil _ _ _ _ _⟩, E⟩
      refine Sq.nil ?_
      refine Eq.next ?_
      refine Cq.els rfl ?_
      refine Cq.skip ?_
      refine Eq.next ?_
      refine Cq.seq ?_
      refine Cq.region ?_
      refine Sq.move .plain rfl rfl ?_
      refine Sq.lenInts (Own.row hno) .plain rfl und56 rfl ?_
      refine Sq.assign .plain rfl rfl ?_
      refine Sq.nil ?_
      refine Eq.next ?_
      refine Cq.seq ?_
      refine Cq.region ?_
      refine Sq.move .plain rfl rfl ?_
      refine Sq.move .plain rfl rfl ?_
      refine Sq.move .plain rfl rfl ?_
      refine Sq.mapUpdate key94 hM .plain rfl (k := f q (L.getD k.toNat 0)) rfl rfl rfl hin (fun w35 g36 hm37 => ?_)
      have hs38 := World.grownBy.size g36
      replace E := E.mapped g36 (by omega)
      replace hno := hno.mapped hM g36
      replace hro := hro.mapped hM g36
      replace hrs := hrs.mapped hM g36
      replace hM := hm37
      refine Sq.nil ?_
      refine Eq.next ?_
      refine Cq.region ?_
      refine Sq.move .plain rfl rfl ?_
      refine Sq.move .plain rfl rfl ?_
      refine Sq.lit sl56 rfl rfl .plain rfl rfl (one_cons rfl one_nil) (fun b39 w40 e41 hlo42 ho43 hk44 => ?_)
      have hs45 := Below.size e41
      replace E := E.trans e41
      replace hno := hno.ext e41
      replace hM := hM.ext e41
      replace hrs := hrs.ext e41
      replace hro := hro.ext e41
      refine Sq.app1F sl56 hno (one_ints _) (by omega) (by rw [List.length_map]; omega) hk44 rfl .plain rfl rfl rfl (fun v46 w47 ho49 g48 hf50 _ => ?_)
      have hs51 := World.grownBy.size g48
      replace E := E.owned hno g48 (Nat.le_refl _)
      replace hM := hM.owned hno g48
      replace hrs := hrs.grow hno g48 hf50 (by decide)
      have hap2 := hap.grow hro hf50
      replace hro := Own.other hro g48 hap
      replace hno := Own.snocI ho49
      replace hap := hap2
      refine Sq.assign .plain rfl rfl ?_
      refine Sq.nil ?_
      refine Eq.next ?_
      refine Cq.region ?_
      refine Sq.move .plain rfl rfl ?_
      refine Sq.move .plain rfl rfl ?_
      refine Sq.lit sl56 rfl rfl .plain rfl rfl (one_cons rfl one_nil) (fun b52 w53 e54 hlo55 ho56 hk57 => ?_)
      have hs58 := Below.size e54
      replace E := E.trans e54
      replace hno := hno.ext e54
      replace hM := hM.ext e54
      replace hrs := hrs.ext e54
      replace hro := hro.ext e54
      refine Sq.app1F sl56 hro (one_ints _) (by omega) (by rw [List.length_map]; omega) hk57 rfl .plain rfl rfl rfl (fun v59 w60 ho62 g61 hf63 _ => ?_)
      have hs64 := World.grownBy.size g61
      replace E := E.owned hro g61 (by omega)
      replace hM := hM.owned hro g61
      replace hrs := hrs.apart hro g61 (Nat.le_refl _) (by decide)
      have hap2 := (hap.symm.grow hno hf63).symm
      replace hno := Own.other hno g61 hap.symm
      replace hro := Own.snocI ho62
      replace hap := hap2
      refine Sq.assign .plain rfl rfl ?_
      refine Sq.nil ?_
      refine Eq.end ?_
      refine Eq.next ?_
      refine Cq.region ?_
      refine Sq.add .plain rfl rfl rfl (by omega) ?_
      refine Sq.move .plain rfl rfl ?_
      refine Sq.nil ?_
      have e2 := toNat_succ hk.1
      have e5 := mid_succ (f := f) (s := s) (i := i.toNat) (q := q) (k := k.toNat) (L := L) (by omega)
      have e6 := rowTo_step (f := f) (q := q) (k := k.toNat) (L := L) (by omega) (mid_mem (f := f) (s := s) (i := i.toNat))
      rw [← e5] at e6
      have e7 := idx_new hin
      rw [← e5] at e7
      rw [addNode_F hin] at e5
      refine Eq.round _ _ ⟨k + 1, _, _, rfl, by omega, by omega, by rw [e2, e5]; exact hno, by rw [e2, e5]; exact hM, by rw [e2, e6, e7]; exact hro, hrs, hap, by rw [e2, e5, List.length_append]; simp only [List.length_singleton]; omega, E, rfl⟩ (by omega) (.cons rfl (.cons rfl (.cons rfl (.cons rfl (.cons rfl (.cons rfl (.cons rfl (.cons rfl (.cons rfl (.cons rfl (.cons rfl (.nil))))))))))))
    refine Sq.nil ?_
    refine Eq.next ?_
    refine Cq.seq ?_
    refine Cq.els rfl ?_
    refine Cq.exit ?_
    refine Eq.past ?_
    refine Eq.past ?_
    refine Eq.hit ?_
    refine Eq.next ?_
    refine Cq.region ?_
    refine Sq.move .plain rfl rfl ?_
    refine Sq.move .plain rfl rfl ?_
    obtain ⟨rs, hr1, hr2, hr3⟩ := OwnRowsZ.open hrs (by decide)
    have hx0 := Ext.refl wl2
    refine Sq.lit sl23 rfl rfl .plain rfl rfl (one_cons (Row.one (Own.row hro)) one_nil) (fun b65 w66 e67 hlo68 ho69 _ => ?_)
    have hs74 := Below.size e67
    replace E := E.trans e67
    replace hno := hno.ext e67
    replace hM := hM.ext e67
    replace hro := hro.ext e67
    replace hr1 := hr1.ext e67
    replace hx0 := hx0.trans e67
    refine Sq.app sl23 hr1 (by omega) (Own.row (ho69 _ (Nat.le_refl _))) (one_cons (Row.one (Own.row hro)) one_nil) (by rw [hr2]; have := rowsAt_length (f := f) (L := L) (bfs f s L i.toNat) i.toNat (by omega); simp only [List.length_cons, List.length_nil]; omega) .plain rfl rfl rfl rfl (fun v70 w71 ho73 g72 => ?_)
    have hs75 := World.grownBy.size g72
    have hrs := hr3 _ _ _ _ _ hx0 hro hap (by omega) ho73 g72
    replace E := E.owned hr1 g72 (Nat.le_refl _)
    replace hM := hM.owned hr1 g72
    replace hno := hno.owned hr1 g72 (by decide)
    refine Sq.assign .plain rfl rfl ?_
    refine Sq.nil ?_
    refine Eq.end ?_
    refine Eq.next ?_
    refine Cq.region ?_
    refine Sq.move .plain rfl rfl ?_
    refine Sq.add .plain rfl rfl rfl (by omega) ?_
    refine Sq.assign .plain rfl rfl ?_
    refine Sq.nil ?_
    have e1 := toNat_succ hi.1
    have e3 := mid_done (k := k.toNat) (by omega) hq
    have e4 := (bfs_prefix1 (f := f) (s := s) (L := L) i.toNat).length_le
    refine Eq.round _ _ ⟨i + 1, _, _, rfl, by rw [e1]; omega, by rw [e1, ← e3]; exact hno, by rw [e1, ← e3]; exact hM, by rw [e1, rowsAt_step hq, ← e3, ← rowTo_done (k := k.toNat) (by omega)]; exact hrs, by rw [e1, ← e3]; exact hlk, E, rfl⟩ (by omega) (.cons rfl (.cons rfl (.cons rfl (.cons rfl (.cons rfl (.cons rfl (.cons rfl (.nil))))))))
  refine Sq.nil ?_
  refine Eq.next ?_
  refine Cq.els rfl ?_
  refine Cq.exit ?_
  refine Eq.past ?_
  refine Eq.past ?_
  refine Eq.hit ?_
  refine Eq.next ?_
  refine Cq.seq ?_
  refine Cq.region ?_
  refine Sq.move .plain rfl rfl ?_
  refine Sq.move .plain rfl rfl ?_
  refine Sq.assign .plain rfl rfl ?_
  refine Sq.assign .plain rfl rfl ?_
  refine Sq.assign .plain rfl rfl ?_
  refine Sq.nil ?_
  refine Eq.next ?_
  refine Cq.ret ?_
  refine Eq.ret3 rfl rfl rfl rfl ?_
  obtain ⟨e8, e9⟩ := ord_fin (f := f) (s := s) (L := L) (i := i.toNat) (by omega) (by omega) hlm
  have e10 := rowsAt_fin (f := f) (s := s) (L := L) (i := i.toNat) (by omega) (by omega)
  rw [e10] at hrs
  rw [e8] at hno
  exact ⟨⟨_, _, by rw [decide_eq_true e9], by rw [if_pos e9]; exact hno, by rw [if_pos e9]; exact hrs.to⟩, E⟩
end Go.Proofs.Ytdejmfkpohgamaa
set_option linter.unusedSimpArgs false
set_option linter.unusedVariables false
namespace Go.Proofs.Ytdejmfkpohgamaa
open Go.RowKit
set_option maxRecDepth 100000 in
theorem trim1_c (w0 : World) (q x : Int) (a : A) (bt b : Nat) (xs : List Int) (hB : Blk w0 bt 57 [Value.slice (some ⟨b, 0, none⟩) a.next.length a.next.length]) (hT : Blk w0 b 62 (xs.map (Value.int .i64))) (hTab : Tab a xs) (hq : 0 ≤ q ∧ q < a.next.length) (hx : 0 ≤ x ∧ x < 6) : Ret Try.prog 93 #[Value.int .i64 q, Value.int .i64 x, Value.pointer (some ⟨bt, 0, none⟩)] w0 (fun v w => v = .int .i64 (goA a q x) ∧ w0 = w) := by
  refine Ret.of (args := [Value.int .i64 q, Value.int .i64 x, Value.pointer (some ⟨bt, 0, none⟩)]) Try.func93 rfl rfl rfl ?_
  rintro _ rfl
  show Cq _ _ _ _ [(0, Value.int .i64 q), (1, Value.int .i64 x), (2, Value.pointer (some ⟨bt, 0, none⟩))] _
  refine Cq.seq ?_
  refine Cq.region ?_
  refine Sq.assign .plain rfl rfl ?_
  refine Sq.nil ?_
  refine Eq.next ?_
  refine Cq.seq ?_
  refine Cq.region ?_
  refine Sq.loadB one57 .plain rfl rfl hB rfl ?_
  refine Sq.move .plain rfl rfl ?_
  refine Sq.move .plain rfl rfl ?_
  refine Sq.val .plain rfl rfl (Still.ixS slk57 rfl rfl (by omega) (by omega)) ?_
  refine Sq.val .plain rfl rfl (Still.ixA ar62 rfl rfl (by omega) (by omega)) ?_
  refine Sq.val .plain rfl rfl (Still.loadB one3 rfl hT (by rw [Nat.zero_add, List.getElem?_map, hTab.2 q x (by first | omega | assumption) (by omega)]; rfl)) ?_
  refine Sq.assign .plain rfl rfl ?_
  refine Sq.nil ?_
  refine Eq.next ?_
  refine Cq.ret ?_
  refine Eq.ret1 rfl rfl ?_
  exact ⟨rfl, rfl⟩
set_option maxRecDepth 100000 in
theorem trim_c (w0 : World) (a : A) (nx ac : Value) (hnx : Rows w0 56 3 nx a.next) (hac : Bools w0 4 ac a.acc) (hv : validA a = true) : Ret Try.prog 59 #[Value.agg #[Value.int .i64 a.al, nx, ac]] w0 (fun v w => OwnA w w0.heap.size v (trim a) ∧ Ext w0 w) := by
  have E := Ext.refl w0
  have hal := (validA_spec.1 hv).1
  refine Ret.of (args := [Value.agg #[Value.int .i64 a.al, nx, ac]]) Try.func59 rfl rfl rfl ?_
  rintro _ rfl
  show Cq _ _ _ _ [(0, Value.agg #[Value.int .i64 a.al, nx, ac])] _
  refine Cq.seq ?_
  refine Cq.region ?_
  refine Sq.box .plain rfl rfl (fun b1 w2 e3 hB4 hlo5 => ?_)
  have hd6 := Nat.le_trans (Below.size E) hlo5
  have hs7 := Below.size e3
  replace E := E.trans e3
  refine Sq.alloc zero26 .plain rfl (fun b8 w9 e10 hB11 hlo12 => ?_)
  have hd13 := Nat.le_trans (Below.size E) hlo12
  have hd14 := Nat.lt_of_lt_of_le hB4.lt hlo12
  have hs15 := Below.size e10
  replace E := E.trans e10
  replace hB4 := hB4.ext e10
  refine Sq.nil ?_
  refine Eq.next ?_
  refine Cq.seq ?_
  refine Cq.region ?_
  refine Sq.loadAgg agg26 .plain rfl rfl hB4 rfl ?_
  have hd24 := hB4.lt
  have hd25 := hB11.lt
  refine Sq.call fn48 .plain rfl rfl (tableOf_c _ a _ _ (hnx.ext E) (hac.ext E) hv) ?_
  rintro _ w17 ⟨⟨b19, xs20, rfl, hlo21, hT22, hTab23⟩, e18⟩
  have hs26 := Below.size E
  have hs27 := Below.size e18
  replace E := E.trans e18
  replace hB4 := hB4.ext e18
  replace hB11 := hB11.ext e18
  refine Sq.alloc1 zero57 rfl .plain rfl (fun b28 w29 e30 hB31 hlo32 => ?_)
  have hd33 := Nat.le_trans (Below.size E) hlo32
  have hd34 := Nat.lt_of_lt_of_le hB4.lt hlo32
  have hd35 := Nat.lt_of_lt_of_le hB11.lt hlo32
  have hd36 := Nat.lt_of_lt_of_le hT22.lt hlo32
  have hs37 := Below.size e30
  replace E := E.trans e30
  replace hB4 := hB4.ext e30
  replace hB11 := hB11.ext e30
  replace hT22 := hT22.ext e30
  refine Sq.store one57 .plain rfl rfl rfl hB31 (by simp) (fun w38 g39 hB40 => ?_)
  have hs41 := World.grownBy.size g39
  replace E := E.grown g39 (fun k hk => by injection hk with hk; subst hk; omega)
  replace hB4 := hB4.grown g39 (by intro h; injection h with h; omega)
  replace hB11 := hB11.grown g39 (by intro h; injection h with h; omega)
  replace hT22 := hT22.grown g39 (by intro h; injection h with h; omega)
  replace hB31 := hB40
  refine Sq.nil ?_
  refine Eq.next ?_
  refine Cq.seq ?_
  refine Cq.drawS 13 (fun w' => Blk w' b1 26 [Value.int .i64 a.al, nx, ac] ∧ Blk w' b28 57 [Value.slice (some ⟨b19, 0, none⟩) a.next.length a.next.length]) mixed (⟨hB4, hB31⟩) (fun w42 e43 hS => ?_)
  clear hS
  have hs44 := Below.size e43
  replace E := E.trans e43
  replace hB4 := hB4.ext e43
  replace hB11 := hB11.ext e43
  replace hT22 := hT22.ext e43
  replace hB31 := hB31.ext e43
  refine Gq.st 0 rfl (by kernel_rfl) rfl .plain rfl (fun _ _ _ h => h) ⟨hB4, hB31⟩ (fun w' x => Still.fieldAddr fld26_0 rfl) ?_
  refine Gq.st 1 rfl (by kernel_rfl) rfl .plain rfl (fun _ _ _ h => h) ⟨hB4, hB31⟩ (fun w' x => Still.loadB one3 rfl x.1 rfl) ?_
  refine Gq.st 3 rfl (by kernel_rfl) rfl .plain rfl (fun _ _ _ h => h) ⟨hB4, hB31⟩ (fun w' x => Still.loadB one57 rfl x.2 rfl) ?_
  refine Gq.st 4 rfl (by kernel_rfl) rfl .plain rfl (fun _ _ _ h => h) ⟨hB4, hB31⟩ (fun w' x => Still.len und57 rfl) ?_
  refine Gq.st 5 rfl (by kernel_rfl) rfl .plain rfl (fun _ _ _ h => h) ⟨hB4, hB31⟩ (fun w' x => Still.makeFunc rfl) ?_
  refine Gq.one 2 rfl (by kernel_rfl) ?_
  have hd49 := hB4.lt
  have hd50 := hB11.lt
  have hd51 := hT22.lt
  have hd52 := hB31.lt
  refine Sq.call fn50 .plain rfl rfl (lettersOf_c a.al (by omega) _) ?_
  rintro v45 w46 ⟨hl48, e47⟩
  have hs53 := Below.size E
  have hs54 := Below.size e47
  replace E := E.trans e47
  replace hB4 := hB4.ext e47
  replace hB11 := hB11.ext e47
  replace hT22 := hT22.ext e47
  replace hB31 := hB31.ext e47
  refine Sq.nil ?_
  refine Eq.goes (fun _ => ⟨hB4, hB31⟩) ?_
  refine Gq.one 6 rfl (by kernel_rfl) ?_
  have hd63 := hB4.lt
  have hd64 := hB11.lt
  have hd65 := hT22.lt
  have hd66 := hB31.lt
  have hvs := validA_spec.1 hv
  have hlet := letters_len6 a.al
  have htl := trim_len hv
  refine Sq.call fn49 .plain rfl rfl (numbered_c _ (goA a) 0 (letters a.al) _ _ (List.length a.next : Int) (fun q => 0 ≤ q ∧ q < (a.next.length : Int)) (by omega) (Own.row hl48) (by omega) (fun x hx => ⟨(mem_letters hx).1, (mem_letters hx).2.1⟩) (zero_in hv) (fun q hq x hx => goA_in hv hq ⟨(mem_letters hx).1, (mem_letters hx).2.1⟩) (fun i => Nat.le_trans (trim_bfs_len hv i) (by omega)) ⟨93, _, [Value.pointer (some ⟨b28, 0, none⟩)], rfl, fn93, fun w q x hx hq hxx => (trim1_c w q x a _ _ _ (hB31.ext hx) (hT22.ext hx) hTab23 hq hxx).mono fun v w' h => ⟨h.1, h.2 ▸ Ext.refl w⟩⟩) ?_
  rintro _ w56 ⟨⟨nv58, xv59, rfl, hn60, hx61⟩, e57⟩
  have hs67 := Below.size E
  have hs68 := Below.size e57
  replace E := E.trans e57
  replace hB4 := hB4.ext e57
  replace hB11 := hB11.ext e57
  replace hT22 := hT22.ext e57
  replace hB31 := hB31.ext e57
  have hl62 : ((((ord (goA a) 0 (letters a.al)).length : Nat) : Int) ≤ (List.length a.next : Int)) := by omega
  rw [if_pos hl62] at hn60 hx61
  refine Sq.nil ?_
  refine Eq.goes (fun _ => ⟨hB4, hB31⟩) ?_
  refine Gq.st 7 rfl (by kernel_rfl) rfl .plain rfl (fun _ _ _ h => h) ⟨hB4, hB31⟩ (fun w' x => Still.move rfl) ?_
  refine Gq.st 8 rfl (by kernel_rfl) rfl .plain rfl (fun _ _ _ h => h) ⟨hB4, hB31⟩ (fun w' x => Still.extract rfl rfl) ?_
  refine Gq.st 9 rfl (by kernel_rfl) rfl .plain rfl (fun _ _ _ h => h) ⟨hB4, hB31⟩ (fun w' x => Still.extract rfl rfl) ?_
  refine Gq.st 10 rfl (by kernel_rfl) rfl .plain rfl (fun _ _ _ h => h) ⟨hB4, hB31⟩ (fun w' x => Still.extract rfl rfl) ?_
  refine Gq.isT (hl62) ?_
  refine Gq.st 11 rfl (by kernel_rfl) rfl .plain rfl (fun _ _ _ h => h) ⟨hB4, hB31⟩ (fun w' x => Still.assign rfl) ?_
  refine Gq.st 12 rfl (by kernel_rfl) rfl .plain rfl (fun _ _ _ h => h) ⟨hB4, hB31⟩ (fun w' x => Still.assign rfl) ?_
  refine Gq.one 13 rfl (by kernel_rfl) ?_
  refine Sq.assign .plain rfl rfl ?_
  refine Sq.nil ?_
  refine Eq.goes (fun h => absurd h (by decide)) ?_
  refine Gq.done (by kernel_rfl) ?_
  refine Eq.next ?_
  refine Cq.seq ?_
  refine Cq.region ?_
  refine Sq.fieldAddr fld26_0 .plain rfl rfl ?_
  refine Sq.loadB one3 .plain rfl rfl hB4 rfl ?_
  refine Sq.move .plain rfl rfl ?_
  refine Sq.build st26 rfl rfl .plain rfl rfl (one_cons rfl (one_cons (Rows.one (OwnRows.rows hx61)) one_nil)) rfl ?_
  refine Sq.alloc zero26 .plain rfl (fun b69 w70 e71 hB72 hlo73 => ?_)
  have hd74 := Nat.le_trans (Below.size E) hlo73
  have hd75 := Nat.lt_of_lt_of_le hB4.lt hlo73
  have hd76 := Nat.lt_of_lt_of_le hB11.lt hlo73
  have hd77 := Nat.lt_of_lt_of_le hT22.lt hlo73
  have hd78 := Nat.lt_of_lt_of_le hB31.lt hlo73
  have hs79 := Below.size e71
  replace E := E.trans e71
  replace hB4 := hB4.ext e71
  replace hB11 := hB11.ext e71
  replace hn60 := hn60.ext e71
  replace hx61 := hx61.ext e71
  refine Sq.storeAgg agg26 .plain rfl rfl (one_cons rfl (one_cons (Rows.one (OwnRows.rows hx61)) (one_cons rfl one_nil))) hB72 rfl rfl (fun w80 g81 hB82 => ?_)
  have hs83 := World.grownBy.size g81
  replace E := E.grown g81 (fun k hk => by injection hk with hk; subst hk; omega)
  replace hB4 := hB4.grown g81 (by intro h; injection h with h; omega)
  replace hB11 := hB11.grown g81 (by intro h; injection h with h; omega)
  replace hn60 := hn60.stored g81 hB72 (by decide)
  replace hx61 := hx61.stored g81 hB72 (by decide) (by decide)
  replace hB72 := hB82
  refine Sq.nil ?_
  refine Eq.next ?_
  refine Cq.seq ?_
  refine Cq.seq ?_
  refine Cq.region ?_
  refine Sq.move .plain rfl rfl ?_
  refine Sq.lenInts (Own.row hn60) .plain rfl und56 rfl ?_
  refine Sq.move .plain rfl rfl ?_
  refine Sq.nil ?_
  refine Eq.next ?_
  refine Cq.block ?_
  have hall := ord_all (f := goA a) (s := 0) (L := letters a.al) (P := fun q => 0 ≤ q ∧ q < (a.next.length : Int)) (zero_in hv) (fun q hq x hx => goA_in hv hq ⟨(mem_letters hx).1, (mem_letters hx).2.1⟩)
  refine Cq.loop (fun nn w ls => ∃ (k : Int), ∃ (acv : Value), ∃ (ys : List Bool), ls = [(1, Value.pointer (some ⟨b1, 0, none⟩)), (2, Value.pointer (some ⟨b8, 0, none⟩)), (7, Value.pointer (some ⟨b69, 0, none⟩)), (27, nv58), (28, Value.int .i64 ((List.length (ord (goA a) 0 (letters a.al)) : Int))), (29, Value.int .i64 k)] ∧ (0 ≤ k ∧ k ≤ (ord (goA a) 0 (letters a.al)).length) ∧ Blk w b69 26 [Value.int .i64 a.al, xv59, acv] ∧ Own w w0.heap.size 4 acv (ys.map Value.bool) ∧ ys = ((ord (goA a) 0 (letters a.al)).take k.toNat).map (accA a) ∧ Ext w0 w ∧ Blk w b1 26 [Value.int .i64 a.al, nx, ac] ∧ Blk w b8 26 [Value.int .i64 0, Value.slice none 0 0, Value.slice none 0 0] ∧ OwnRows w w46.heap.size w56.heap.size 56 3 xv59 ((ord (goA a) 0 (letters a.al)).map (rowAt (goA a) (letters a.al) (ord (goA a) 0 (letters a.al)))) ∧ Own w w46.heap.size 3 nv58 ((ord (goA a) 0 (letters a.al)).map (Value.int .i64)) ∧ nn = (((ord (goA a) 0 (letters a.al)).length : Int) - k).toNat) _ _ ⟨0, _, [], rfl, by omega, hB72, Own.nil _ _ _, rfl, E, hB4, hB11, hx61, hn60, rfl⟩ (.cons rfl (.cons rfl (.cons rfl (.cons rfl (.cons rfl (.cons rfl (.nil))))))) ?_
  rintro nn wl1 ls ⟨k, acv, ys, rfl, hk, hB7, hoa, hys, E, hB4, hB11, hx61, hn60, rfl⟩
  have hs84 := Below.size E
  have hat : k < (ord (goA a) 0 (letters a.al)).length → 0 ≤ (ord (goA a) 0 (letters a.al)).getD k.toNat 0 ∧ (ord (goA a) 0 (letters a.al)).getD k.toNat 0 < a.next.length := fun h => hall _ (getD_mem (by omega))
  have hyl : ys.length ≤ 20 := by rw [hys, List.length_map, List.length_take]; omega
  refine Cq.seq ?_
  refine Cq.region ?_
  refine Sq.lss .plain rfl rfl rfl ?_
  refine Sq.part (fun c85 => ?_) (fun c85 => ?_)
  · refine Sq.nil ?_
    refine Eq.next ?_
    refine Cq.seq ?_
    refine Cq.thn rfl ?_
    refine Cq.skip ?_
    refine Eq.next ?_
    refine Cq.seq ?_
    refine Cq.block ?_
    refine Cq.seq ?_
    refine Cq.region ?_
    refine Sq.idxInts sl56 one3 (Own.row hn60) .plain rfl rfl rfl .plain rfl rfl (by omega) (by omega) ?_
    refine Sq.assign .plain rfl rfl ?_
    refine Sq.nil ?_
    refine Eq.next ?_
    refine Cq.drawS 9 (fun w' => Blk w' b1 26 [Value.int .i64 a.al, nx, ac] ∧ Blk w' b69 26 [Value.int .i64 a.al, xv59, acv] ∧ Ext w0 w') mixed (⟨hB4, hB7, E⟩) (fun w86 e87 hS => ?_)
    clear hS
    have hs88 := Below.size e87
    replace E := E.trans e87
    replace hB4 := hB4.ext e87
    replace hB11 := hB11.ext e87
    replace hx61 := hx61.ext e87
    replace hn60 := hn60.ext e87
    replace hB7 := hB7.ext e87
    replace hoa := hoa.ext e87
    refine Gq.st 0 rfl (by kernel_rfl) rfl .plain rfl (fun _ _ _ h => h) ⟨hB4, hB7, E⟩ (fun w' x => Still.fieldAddr fld26_2 rfl) ?_
    refine Gq.st 1 rfl (by kernel_rfl) rfl .plain rfl (fun _ _ _ h => h) ⟨hB4, hB7, E⟩ (fun w' x => Still.loadB one24 rfl x.2.1 rfl) ?_
    refine Gq.st 2 rfl (by kernel_rfl) rfl .plain rfl (fun _ _ _ h => h) ⟨hB4, hB7, E⟩ (fun w' x => Still.fieldAddr fld26_2 rfl) ?_
    refine Gq.st 3 rfl (by kernel_rfl) rfl .plain rfl (fun _ _ _ h => h) ⟨hB4, hB7, E⟩ (fun w' x => Still.loadB one24 rfl x.1 rfl) ?_
    refine Gq.st 4 rfl (by kernel_rfl) rfl .plain rfl (fun _ _ _ h => h) ⟨hB4, hB7, E⟩ (fun w' x => Still.move rfl) ?_
    obtain ⟨p89, hp90_w86⟩ := Bools.at hac (i := (ord (goA a) 0 (letters a.al)).getD k.toNat 0) (by have := hat (by omega); omega) (by have := hat (by omega); omega)
    refine Gq.st 5 rfl (by kernel_rfl) rfl .plain rfl (fun _ _ _ h => h) ⟨hB4, hB7, E⟩ (fun w' x => Still.at' sl24 hp90_w86 rfl rfl) ?_
    refine Gq.st 6 rfl (by kernel_rfl) rfl .plain rfl (fun _ _ _ h => h) ⟨hB4, hB7, E⟩ (fun w' x => Still.loadA one4 rfl (hp90_w86.ext (x.2.2)).1) ?_
    refine Gq.one 7 rfl (by kernel_rfl) ?_
    refine Sq.lit sl24 rfl rfl .plain rfl rfl (one_cons rfl one_nil) (fun b91 w92 e93 hlo94 ho95 _ => ?_)
    replace ho95 := ho95 w86.heap.size (Nat.le_refl _)
    have hs97 := Below.size e93
    replace E := E.trans e93
    replace hB4 := hB4.ext e93
    replace hB11 := hB11.ext e93
    replace hx61 := hx61.ext e93
    replace hn60 := hn60.ext e93
    replace hB7 := hB7.ext e93
    replace hoa := hoa.ext e93
    refine Sq.nil ?_
    refine Eq.goes (fun _ => ⟨hB4, hB7, E⟩) ?_
    refine Gq.one 8 rfl (by kernel_rfl) ?_
    refine Sq.app sl24 hoa (by omega) (Own.row ho95) (one_cons rfl one_nil) (by first | omega | (simp; omega)) .plain rfl rfl rfl rfl (fun v98 w99 ho101 g100 => ?_)
    have hs102 := g100.size
    replace E := E.owned hoa g100 (by omega)
    replace hB4 := hB4.owned hoa g100 (by decide)
    replace hB11 := hB11.owned hoa g100 (by decide)
    replace hx61 := hx61.owned hoa g100 (by decide) (by decide)
    replace hn60 := hn60.owned hoa g100 (by decide)
    replace hB7 := hB7.owned hoa g100 (by decide)
    refine Sq.nil ?_
    refine Eq.goes (fun _ => ⟨hB4, hB7, E⟩) ?_
    refine Gq.one 9 rfl (by kernel_rfl) ?_
    refine Sq.fieldAddr fld26_2 .plain rfl rfl ?_
    refine Sq.nil ?_
    refine Eq.goes (fun h => absurd h (by decide)) ?_
    refine Gq.one 10 rfl (by kernel_rfl) ?_
    refine Sq.store one24 .plain rfl rfl (Row.one (Own.row ho101)) hB7 (by simp) (fun w103 g104 hB105 => ?_)
    have hs106 := World.grownBy.size g104
    replace E := E.grown g104 (fun k hk => by injection hk with hk; subst hk; omega)
    replace hB4 := hB4.grown g104 (by intro h; injection h with h; omega)
    replace hB11 := hB11.grown g104 (by intro h; injection h with h; omega)
    replace hx61 := hx61.stored g104 hB7 (by decide) (by decide)
    replace hn60 := hn60.stored g104 hB7 (by decide)
    replace ho101 := ho101.stored g104 hB7 (by decide)
    replace hB7 := hB105
    refine Sq.nil ?_
    refine Eq.goes (fun h => absurd h (by decide)) ?_
    refine Gq.done (by kernel_rfl) ?_
    refine Eq.end ?_
    refine Eq.next ?_
    refine Cq.region ?_
    refine Sq.add .plain rfl rfl rfl (by omega) ?_
    refine Sq.move .plain rfl rfl ?_
    refine Sq.nil ?_
    have e1 := toNat_succ hk.1
    refine Eq.round _ _ ⟨k + 1, _, _, rfl, by omega, hB7, Own.snocB ho101, by rw [e1, take_snoc 0 (by omega), List.map_append, ← hys]; rfl, E, hB4, hB11, hx61, hn60, rfl⟩ (by omega) (.cons rfl (.cons rfl (.cons rfl (.cons rfl (.cons rfl (.cons rfl (.nil)))))))
  refine Sq.nil ?_
  refine Eq.next ?_
  refine Cq.seq ?_
  refine Cq.els rfl ?_
  refine Cq.exit ?_
  refine Eq.past ?_
  refine Eq.past ?_
  refine Eq.hit ?_
  refine Eq.next ?_
  refine Cq.seq ?_
  refine Cq.region ?_
  refine Sq.loadAgg agg26 .plain rfl rfl hB7 rfl ?_
  refine Sq.storeAgg agg26 .plain rfl rfl (one_cons rfl (one_cons (Rows.one (OwnRows.rows hx61)) (one_cons (Row.one (Own.row hoa)) one_nil))) hB11 rfl rfl (fun w107 g108 hB109 => ?_)
  have hs110 := World.grownBy.size g108
  replace E := E.grown g108 (fun k hk => by injection hk with hk; subst hk; omega)
  replace hx61 := hx61.stored g108 hB11 (by decide) (by decide)
  replace hoa := hoa.stored g108 hB11 (by decide)
  replace hB11 := hB109
  refine Sq.nil ?_
  refine Eq.next ?_
  refine Cq.ret ?_
  refine Eq.retCell rfl rfl agg26 hB11 rfl ?_
  have e : ys = (trim a).acc := by rw [hys, List.take_of_length_le (by omega)]; rfl
  rw [e] at hoa
  exact ⟨⟨_, _, rfl, OwnRows.now (OwnRows.mono hx61 (by omega)), hoa⟩, E⟩
set_option maxRecDepth 100000 in
theorem trimA_c (w0 : World) (a : A) (nx ac : Value) (hnx : Rows w0 56 3 nx a.next) (hac : Bools w0 4 ac a.acc) : Ret Try.prog 19 #[Value.agg #[Value.int .i64 a.al, nx, ac]] w0 (fun v w => (∃ u, v = .tuple #[u, .bool (validA a)] ∧ OwnA w w0.heap.size u (if validA a then trim a else zeroA)) ∧ Ext w0 w) := by
  have E := Ext.refl w0
  refine Ret.of (args := [Value.agg #[Value.int .i64 a.al, nx, ac]]) Try.func19 rfl rfl rfl ?_
  rintro _ rfl
  show Cq _ _ _ _ [(0, Value.agg #[Value.int .i64 a.al, nx, ac])] _
  refine Cq.seq ?_
  refine Cq.region ?_
  refine Sq.box .plain rfl rfl (fun b1 w2 e3 hB4 hlo5 => ?_)
  have hd6 := Nat.le_trans (Below.size E) hlo5
  have hs7 := Below.size e3
  replace E := E.trans e3
  refine Sq.alloc zero26 .plain rfl (fun b8 w9 e10 hB11 hlo12 => ?_)
  have hd13 := Nat.le_trans (Below.size E) hlo12
  have hd14 := Nat.lt_of_lt_of_le hB4.lt hlo12
  have hs15 := Below.size e10
  replace E := E.trans e10
  replace hB4 := hB4.ext e10
  refine Sq.assign .plain rfl rfl ?_
  refine Sq.nil ?_
  refine Eq.next ?_
  refine Cq.seq ?_
  refine Cq.seq ?_
  refine Cq.region ?_
  refine Sq.loadAgg agg26 .plain rfl rfl hB4 rfl ?_
  have hd19 := hB4.lt
  have hd20 := hB11.lt
  refine Sq.call fn22 .plain rfl rfl (valid_c _ a _ _ (hnx.ext E) (hac.ext E)) ?_
  rintro _ w17 ⟨rfl, e18⟩
  have hs21 := Below.size E
  have hs22 := Below.size e18
  replace E := E.trans e18
  replace hB4 := hB4.ext e18
  replace hB11 := hB11.ext e18
  refine Sq.partB (fun hv => ?_) (fun hv => ?_)
  · refine Sq.notT .plain rfl rfl ?_
    refine Sq.nil ?_
    refine Eq.next ?_
    refine Cq.els rfl ?_
    refine Cq.skip ?_
    refine Eq.next ?_
    refine Cq.seq ?_
    refine Cq.region ?_
    refine Sq.loadAgg agg26 .plain rfl rfl hB4 rfl ?_
    have hd30 := hB4.lt
    have hd31 := hB11.lt
    refine Sq.call fn59 .plain rfl rfl (trim_c _ a _ _ (hnx.ext E) (hac.ext E) hv) ?_
    rintro _ w24 ⟨⟨nx26, ac27, rfl, hn28, ha29⟩, e25⟩
    have hs32 := Below.size E
    have hs33 := Below.size e25
    replace E := E.trans e25
    replace hB11 := hB11.ext e25
    refine Sq.storeAgg agg26 .plain rfl rfl (one_cons rfl (one_cons (Rows.one (OwnRows.rows hn28)) (one_cons (Row.one (Own.row ha29)) one_nil))) hB11 rfl rfl (fun w34 g35 hB36 => ?_)
    have hs37 := World.grownBy.size g35
    replace E := E.grown g35 (fun k hk => by injection hk with hk; subst hk; omega)
    replace hn28 := hn28.stored g35 hB11 (by decide) (by decide)
    replace ha29 := ha29.stored g35 hB11 (by decide)
    replace hB11 := hB36
    refine Sq.assign .plain rfl rfl ?_
    refine Sq.nil ?_
    refine Eq.next ?_
    refine Cq.ret ?_
    refine Eq.retCell2 rfl rfl agg26 hB11 rfl rfl ?_
    exact ⟨⟨_, by rw [hv], by rw [if_pos hv]; exact ⟨_, _, rfl, OwnRows.now (OwnRows.mono hn28 (by omega)), Own.mono ha29 (by omega)⟩⟩, E⟩
  refine Sq.notF .plain rfl rfl ?_
  refine Sq.nil ?_
  refine Eq.next ?_
  refine Cq.thn rfl ?_
  refine Cq.seq ?_
  refine Cq.region ?_
  refine Sq.build st26 rfl rfl .plain rfl rfl one_nil rfl ?_
  refine Sq.storeAgg agg26 .plain rfl rfl (one_cons rfl (one_cons rfl (one_cons rfl one_nil))) hB11 rfl rfl (fun w38 g39 hB40 => ?_)
  have hs41 := World.grownBy.size g39
  replace E := E.grown g39 (fun k hk => by injection hk with hk; subst hk; omega)
  replace hB11 := hB40
  refine Sq.assign .plain rfl rfl ?_
  refine Sq.nil ?_
  refine Eq.next ?_
  refine Cq.ret ?_
  refine Eq.pastRet ?_
  refine Eq.retCell2 rfl rfl agg26 hB11 rfl rfl ?_
  exact ⟨⟨_, by rw [hv], by rw [if_neg (by simp [hv])]; exact ⟨_, _, rfl, OwnRows.nil _ _ _ _ _, Own.nil _ _ _⟩⟩, E⟩
theorem trimA_c_T (w0 : World) (a : A) (nx ac : Value) (hnx : Rows w0 56 3 nx a.next) (hac : Bools w0 4 ac a.acc) (hC : (validA a) = true) : Ret Try.prog 19 #[Value.agg #[Value.int .i64 a.al, nx, ac]] w0 (fun v w => (∃ u, v = .tuple #[u, .bool true] ∧ OwnA w w0.heap.size u (trim a)) ∧ Ext w0 w) :=
  (trimA_c w0 a nx ac hnx hac).mono fun v w h => by rw [hC, if_pos rfl] at h; exact h
end Go.Proofs.Ytdejmfkpohgamaa
set_option linter.unusedSimpArgs false
set_option linter.unusedVariables false
namespace Go.Proofs.Ytdejmfkpohgamaa
open Go.RowKit
set_option maxRecDepth 100000 in
theorem prod1_c (w0 : World) (q y0 : Int) (a b : A) (bs bn bt b1 b2 : Nat) (xs ys : List Int) (hS : Blk w0 bs 57 [Value.slice (some ⟨b1, 0, none⟩) a.next.length a.next.length]) (hN : Blk w0 bn 3 [Value.int .i64 (List.length b.next : Int)]) (hT : Blk w0 bt 57 [Value.slice (some ⟨b2, 0, none⟩) b.next.length b.next.length]) (h1 : Blk w0 b1 62 (xs.map (Value.int .i64))) (h2 : Blk w0 b2 62 (ys.map (Value.int .i64))) (hTab : Tab a xs) (hTab' : Tab b ys) (hv : validA a = true) (hv' : validA b = true) (hq : InP a b q) (hx : 0 ≤ y0 ∧ y0 < 6) : Ret Try.prog 51 #[Value.int .i64 q, Value.int .i64 y0, Value.pointer (some ⟨bs, 0, none⟩), Value.pointer (some ⟨bn, 0, none⟩), Value.pointer (some ⟨bt, 0, none⟩)] w0 (fun v w => v = .int .i64 (fP a b q y0) ∧ Ext w0 w) := by
  have E := Ext.refl w0
  have hz := zero_in hv'
  have hz2 := (validA_spec.1 hv').2.1
  have hdv : (0 ≤ q / (List.length b.next : Int) ∧ q / (List.length b.next : Int) < (a.next.length : Int)) ∧ 0 ≤ q % (List.length b.next : Int) ∧ q % (List.length b.next : Int) < (List.length b.next : Int) := inP_div hv' hq
  have hmu := fP_mul hv hv' hq hx
  have hg2 : 0 ≤ goA b (q % (List.length b.next : Int)) y0 ∧ goA b (q % (List.length b.next : Int)) y0 < b.next.length := goA_in hv' hdv.2 hx
  have hqb : 0 ≤ q ∧ q ≤ 144 := ⟨hq.1, by have h8 := hq.2; have h9 := le144 hv hv'; omega⟩
  refine Ret.of (args := [Value.int .i64 q, Value.int .i64 y0, Value.pointer (some ⟨bs, 0, none⟩), Value.pointer (some ⟨bn, 0, none⟩), Value.pointer (some ⟨bt, 0, none⟩)]) Try.func51 rfl rfl rfl ?_
  rintro _ rfl
  show Cq _ _ _ _ [(0, Value.int .i64 q), (1, Value.int .i64 y0), (2, Value.pointer (some ⟨bs, 0, none⟩)), (3, Value.pointer (some ⟨bn, 0, none⟩)), (4, Value.pointer (some ⟨bt, 0, none⟩))] _
  refine Cq.seq ?_
  refine Cq.region ?_
  refine Sq.assign .plain rfl rfl ?_
  refine Sq.nil ?_
  refine Eq.next ?_
  refine Cq.seq ?_
  refine Cq.drawS 19 (fun w' => Blk w' bs 57 [Value.slice (some ⟨b1, 0, none⟩) a.next.length a.next.length] ∧ Blk w' bn 3 [Value.int .i64 (List.length b.next : Int)] ∧ Blk w' bt 57 [Value.slice (some ⟨b2, 0, none⟩) b.next.length b.next.length] ∧ Blk w' b1 62 (xs.map (Value.int .i64)) ∧ Blk w' b2 62 (ys.map (Value.int .i64))) mixed (⟨hS, hN, hT, h1, h2⟩) (fun w1 e2 hS => ?_)
  clear hS
  have hs3 := Below.size e2
  replace E := E.trans e2
  replace hS := hS.ext e2
  replace hN := hN.ext e2
  replace hT := hT.ext e2
  replace h1 := h1.ext e2
  replace h2 := h2.ext e2
  refine Gq.st 0 rfl (by kernel_rfl) rfl .plain rfl (fun _ _ _ h => h) ⟨hS, hN, hT, h1, h2⟩ (fun w' x => Still.loadB one57 rfl x.1 rfl) ?_
  refine Gq.st 1 rfl (by kernel_rfl) rfl .plain rfl (fun _ _ _ h => h) ⟨hS, hN, hT, h1, h2⟩ (fun w' x => Still.move rfl) ?_
  refine Gq.st 2 rfl (by kernel_rfl) rfl .plain rfl (fun _ _ _ h => h) ⟨hS, hN, hT, h1, h2⟩ (fun w' x => Still.loadB one3 rfl x.2.1 rfl) ?_
  refine Gq.st 3 rfl (by kernel_rfl) rfl .plain rfl (fun _ _ _ h => h) ⟨hS, hN, hT, h1, h2⟩ (fun w' x => Still.quo rfl rfl (by omega)) ?_
  refine Gq.st 4 rfl (by kernel_rfl) rfl .plain rfl (fun _ _ _ h => h) ⟨hS, hN, hT, h1, h2⟩ (fun w' x => Still.move rfl) ?_
  refine Gq.st 5 rfl (by kernel_rfl) rfl .plain rfl (fun _ _ _ h => h) ⟨hS, hN, hT, h1, h2⟩ (fun w' x => Still.ixS slk57 rfl rfl (by omega) (by omega)) ?_
  refine Gq.st 6 rfl (by kernel_rfl) rfl .plain rfl (fun _ _ _ h => h) ⟨hS, hN, hT, h1, h2⟩ (fun w' x => Still.ixA ar62 rfl rfl (by omega) (by omega)) ?_
  refine Gq.st 7 rfl (by kernel_rfl) rfl .plain rfl (fun _ _ _ h => h) ⟨hS, hN, hT, h1, h2⟩ (fun w' x => Still.loadB one3 rfl x.2.2.2.1 (by rw [Nat.zero_add, List.getElem?_map, hTab.2 (q / (List.length b.next : Int)) y0 (by first | omega | assumption) (by omega)]; rfl)) ?_
  refine Gq.st 8 rfl (by kernel_rfl) rfl .plain rfl (fun _ _ _ h => h) ⟨hS, hN, hT, h1, h2⟩ (fun w' x => Still.loadB one3 rfl x.2.1 rfl) ?_
  refine Gq.st 9 rfl (by kernel_rfl) rfl .plain rfl (fun _ _ _ h => h) ⟨hS, hN, hT, h1, h2⟩ (fun w' x => Still.mul rfl rfl (by omega)) ?_
  refine Gq.st 10 rfl (by kernel_rfl) rfl .plain rfl (fun _ _ _ h => h) ⟨hS, hN, hT, h1, h2⟩ (fun w' x => Still.loadB one57 rfl x.2.2.1 rfl) ?_
  refine Gq.st 11 rfl (by kernel_rfl) rfl .plain rfl (fun _ _ _ h => h) ⟨hS, hN, hT, h1, h2⟩ (fun w' x => Still.move rfl) ?_
  refine Gq.st 12 rfl (by kernel_rfl) rfl .plain rfl (fun _ _ _ h => h) ⟨hS, hN, hT, h1, h2⟩ (fun w' x => Still.loadB one3 rfl x.2.1 rfl) ?_
  refine Gq.st 13 rfl (by kernel_rfl) rfl .plain rfl (fun _ _ _ h => h) ⟨hS, hN, hT, h1, h2⟩ (fun w' x => Still.rem rfl rfl (by omega)) ?_
  refine Gq.st 14 rfl (by kernel_rfl) rfl .plain rfl (fun _ _ _ h => h) ⟨hS, hN, hT, h1, h2⟩ (fun w' x => Still.move rfl) ?_
  refine Gq.st 15 rfl (by kernel_rfl) rfl .plain rfl (fun _ _ _ h => h) ⟨hS, hN, hT, h1, h2⟩ (fun w' x => Still.ixS slk57 rfl rfl (by omega) (by omega)) ?_
  refine Gq.st 16 rfl (by kernel_rfl) rfl .plain rfl (fun _ _ _ h => h) ⟨hS, hN, hT, h1, h2⟩ (fun w' x => Still.ixA ar62 rfl rfl (by omega) (by omega)) ?_
  refine Gq.st 17 rfl (by kernel_rfl) rfl .plain rfl (fun _ _ _ h => h) ⟨hS, hN, hT, h1, h2⟩ (fun w' x => Still.loadB one3 rfl x.2.2.2.2 (by rw [Nat.zero_add, List.getElem?_map, hTab'.2 (q % (List.length b.next : Int)) y0 (by first | omega | assumption) (by omega)]; rfl)) ?_
  refine Gq.st 18 rfl (by kernel_rfl) rfl .plain rfl (fun _ _ _ h => h) ⟨hS, hN, hT, h1, h2⟩ (fun w' x => Still.add rfl rfl (by omega)) ?_
  refine Gq.one 19 rfl (by kernel_rfl) ?_
  refine Sq.assign .plain rfl rfl ?_
  refine Sq.nil ?_
  refine Eq.goes (fun h => absurd h (by decide)) ?_
  refine Gq.done (by kernel_rfl) ?_
  refine Eq.next ?_
  refine Cq.ret ?_
  refine Eq.ret1 rfl rfl ?_
  exact ⟨rfl, E⟩
end Go.Proofs.Ytdejmfkpohgamaa
set_option linter.unusedSimpArgs false
set_option linter.unusedVariables false
namespace Go.Proofs.Ytdejmfkpohgamaa
open Go.RowKit
set_option maxHeartbeats 1000000 in
set_option maxRecDepth 100000 in
theorem prod_c (w0 : World) (a b : A) (nx ac nx' ac' : Value) (hnx : Rows w0 56 3 nx a.next) (hac : Bools w0 4 ac a.acc) (hnx' : Rows w0 56 3 nx' b.next) (hac' : Bools w0 4 ac' b.acc) (k : Int) : Ret Try.prog 16 #[Value.agg #[Value.int .i64 a.al, nx, ac], Value.agg #[Value.int .i64 b.al, nx', ac'], Value.int .i64 k] w0 (fun v w => (∃ u, v = .tuple #[u, .bool (prodOk a b k)] ∧ OwnA w w0.heap.size u (if prodOk a b k then prodA a b k else zeroA)) ∧ Ext w0 w) := by
  have E := Ext.refl w0
  refine Ret.of (args := [Value.agg #[Value.int .i64 a.al, nx, ac], Value.agg #[Value.int .i64 b.al, nx', ac'], Value.int .i64 k]) Try.func16 rfl rfl rfl ?_
  rintro _ rfl
  show Cq _ _ _ _ [(0, Value.agg #[Value.int .i64 a.al, nx, ac]), (1, Value.agg #[Value.int .i64 b.al, nx', ac']), (2, Value.int .i64 k)] _
  refine Cq.seq ?_
  refine Cq.region ?_
  refine Sq.box .plain rfl rfl (fun b1 w2 e3 hB4 hlo5 => ?_)
  have hd6 := Nat.le_trans (Below.size E) hlo5
  have hs7 := Below.size e3
  replace E := E.trans e3
  refine Sq.box .plain rfl rfl (fun b8 w9 e10 hB11 hlo12 => ?_)
  have hd13 := Nat.le_trans (Below.size E) hlo12
  have hd14 := Nat.lt_of_lt_of_le hB4.lt hlo12
  have hs15 := Below.size e10
  replace E := E.trans e10
  replace hB4 := hB4.ext e10
  refine Sq.alloc zero26 .plain rfl (fun b16 w17 e18 hB19 hlo20 => ?_)
  have hd21 := Nat.le_trans (Below.size E) hlo20
  have hd22 := Nat.lt_of_lt_of_le hB4.lt hlo20
  have hd23 := Nat.lt_of_lt_of_le hB11.lt hlo20
  have hs24 := Below.size e18
  replace E := E.trans e18
  replace hB4 := hB4.ext e18
  replace hB11 := hB11.ext e18
  refine Sq.assign .plain rfl rfl ?_
  refine Sq.nil ?_
  refine Eq.next ?_
  refine Cq.seq ?_
  refine Cq.seq ?_
  refine Cq.region ?_
  refine Sq.loadAgg agg26 .plain rfl rfl hB4 rfl ?_
  have hd28 := hB4.lt
  have hd29 := hB11.lt
  have hd30 := hB19.lt
  refine Sq.call fn22 .plain rfl rfl (valid_c _ a _ _ (hnx.ext E) (hac.ext E)) ?_
  rintro _ w26 ⟨rfl, e27⟩
  have hs31 := Below.size E
  have hs32 := Below.size e27
  replace E := E.trans e27
  replace hB4 := hB4.ext e27
  replace hB11 := hB11.ext e27
  replace hB19 := hB19.ext e27
  refine Sq.partB (fun hv => ?_) (fun hv => ?_)
  · refine Sq.notT .plain rfl rfl ?_
    refine Sq.move .plain rfl rfl ?_
    refine Sq.loadAgg agg26 (.met rfl rfl rfl) rfl rfl hB11 rfl ?_
    have hd36 := hB4.lt
    have hd37 := hB11.lt
    have hd38 := hB19.lt
    refine Sq.call fn22 (.met rfl rfl rfl) rfl rfl (valid_c _ b _ _ (hnx'.ext E) (hac'.ext E)) ?_
    rintro _ w34 ⟨rfl, e35⟩
    have hs39 := Below.size E
    have hs40 := Below.size e35
    replace E := E.trans e35
    replace hB4 := hB4.ext e35
    replace hB11 := hB11.ext e35
    replace hB19 := hB19.ext e35
    refine Sq.partB (fun hv' => ?_) (fun hv' => ?_)
    · refine Sq.notT (.met rfl rfl rfl) rfl rfl ?_
      refine Sq.pickF .plain rfl rfl rfl ?_
      refine Sq.move .plain rfl rfl ?_
      refine Sq.move (.met rfl rfl rfl) rfl rfl ?_
      refine Sq.lss (.met rfl rfl rfl) rfl rfl rfl ?_
      refine Sq.part (fun hka => ?_) (fun hka => ?_)
      · refine Sq.pickF .plain rfl rfl rfl ?_
        refine Sq.move .plain rfl rfl ?_
        refine Sq.off rfl rfl rfl rfl rfl rfl ?_
        refine Sq.off rfl rfl rfl rfl rfl rfl ?_
        refine Sq.pickT .plain rfl rfl rfl ?_
        refine Sq.nil ?_
        refine Eq.next ?_
        refine Cq.thn rfl ?_
        refine Cq.seq ?_
        refine Cq.region ?_
        refine Sq.build st26 rfl rfl .plain rfl rfl one_nil rfl ?_
        refine Sq.storeAgg agg26 .plain rfl rfl (one_cons rfl (one_cons rfl (one_cons rfl one_nil))) hB19 rfl rfl (fun w41 g42 hB43 => ?_)
        have hs44 := World.grownBy.size g42
        replace E := E.grown g42 (fun k hk => by injection hk with hk; subst hk; omega)
        replace hB19 := hB43
        refine Sq.assign .plain rfl rfl ?_
        refine Sq.nil ?_
        refine Eq.next ?_
        refine Cq.ret ?_
        refine Eq.pastRet ?_
        refine Eq.retCell2 rfl rfl agg26 hB19 rfl rfl ?_
        have hno : prodOk a b k = false := prodOk_no (.inr (.inr (by omega)))
        exact ⟨⟨_, by rw [hno], by rw [if_neg (by rw [hno]; decide)]; exact ⟨_, _, rfl, OwnRows.nil _ _ _ _ _, Own.nil _ _ _⟩⟩, E⟩
      refine Sq.pickF .plain rfl rfl rfl ?_
      refine Sq.move .plain rfl rfl ?_
      refine Sq.move (.met rfl rfl rfl) rfl rfl ?_
      refine Sq.gtr (.met rfl rfl rfl) rfl rfl rfl ?_
      refine Sq.part (fun hkb => ?_) (fun hkb => ?_)
      · refine Sq.pickF .plain rfl rfl rfl ?_
        refine Sq.nil ?_
        refine Eq.next ?_
        refine Cq.thn rfl ?_
        refine Cq.seq ?_
        refine Cq.region ?_
        refine Sq.build st26 rfl rfl .plain rfl rfl one_nil rfl ?_
        refine Sq.storeAgg agg26 .plain rfl rfl (one_cons rfl (one_cons rfl (one_cons rfl one_nil))) hB19 rfl rfl (fun w45 g46 hB47 => ?_)
        have hs48 := World.grownBy.size g46
        replace E := E.grown g46 (fun k hk => by injection hk with hk; subst hk; omega)
        replace hB19 := hB47
        refine Sq.assign .plain rfl rfl ?_
        refine Sq.nil ?_
        refine Eq.next ?_
        refine Cq.ret ?_
        refine Eq.pastRet ?_
        refine Eq.retCell2 rfl rfl agg26 hB19 rfl rfl ?_
        have hno : prodOk a b k = false := prodOk_no (.inr (.inr (by omega)))
        exact ⟨⟨_, by rw [hno], by rw [if_neg (by rw [hno]; decide)]; exact ⟨_, _, rfl, OwnRows.nil _ _ _ _ _, Own.nil _ _ _⟩⟩, E⟩
      refine Sq.pickF .plain rfl rfl rfl ?_
      refine Sq.nil ?_
      refine Eq.next ?_
      refine Cq.els rfl ?_
      refine Cq.skip ?_
      refine Eq.next ?_
      refine Cq.seq ?_
      refine Cq.cut (fun ls w => ∃ (c8 : Nat), ∃ (c9 : Nat), ∃ (t1 : Nat), ∃ (t2 : Nat), ∃ (xs : List Int), ∃ (ys0 : List Int), ls = [(2, Value.int .i64 k), (3, Value.pointer (some ⟨b1, 0, none⟩)), (4, Value.pointer (some ⟨b8, 0, none⟩)), (6, Value.pointer (some ⟨b16, 0, none⟩)), (7, Value.bool false), (8, Value.pointer (some ⟨c8, 0, none⟩)), (9, Value.pointer (some ⟨c9, 0, none⟩))] ∧ Blk w c8 57 [Value.slice (some ⟨t1, 0, none⟩) a.next.length a.next.length] ∧ Blk w c9 57 [Value.slice (some ⟨t2, 0, none⟩) b.next.length b.next.length] ∧ Blk w t1 62 (xs.map (Value.int .i64)) ∧ Blk w t2 62 (ys0.map (Value.int .i64)) ∧ Tab a xs ∧ Tab b ys0 ∧ (b1 < c8 ∧ b1 < c9 ∧ b1 < t1 ∧ b1 < t2 ∧ b8 < c8 ∧ b8 < c9 ∧ b8 < t1 ∧ b8 < t2 ∧ b16 < c8 ∧ b16 < c9 ∧ b16 < t1 ∧ b16 < t2) ∧ Ext w0 w ∧ Blk w b1 26 [Value.int .i64 a.al, nx, ac] ∧ Blk w b8 26 [Value.int .i64 b.al, nx', ac'] ∧ Blk w b16 26 [Value.int .i64 0, Value.slice none 0 0, Value.slice none 0 0]) ?_ ?_
      · refine Cq.drawS 7 (fun w' => Blk w' b1 26 [Value.int .i64 a.al, nx, ac] ∧ Blk w' b8 26 [Value.int .i64 b.al, nx', ac']) mixed (⟨hB4, hB11⟩) (fun w49 e50 hS => ?_)
        clear hS
        have hs51 := Below.size e50
        replace E := E.trans e50
        replace hB4 := hB4.ext e50
        replace hB11 := hB11.ext e50
        replace hB19 := hB19.ext e50
        refine Gq.st 0 rfl (by kernel_rfl) rfl .plain rfl (fun _ _ _ h => h) ⟨hB4, hB11⟩ (fun w' x => Still.loadAgg agg26 rfl x.1 rfl) ?_
        refine Gq.st 2 rfl (by kernel_rfl) rfl .plain rfl (fun _ _ _ h => h) ⟨hB4, hB11⟩ (fun w' x => Still.loadAgg agg26 rfl x.2 rfl) ?_
        refine Gq.three 1 4 5 rfl rfl rfl (by kernel_rfl) ?_ ?_ ?_
        · have hd60 := hB4.lt
          have hd61 := hB11.lt
          have hd62 := hB19.lt
          refine Sq.call fn48 .plain rfl rfl (tableOf_c _ a _ _ (hnx.ext E) (hac.ext E) hv) ?_
          rintro _ w53 ⟨⟨b55, xs56, rfl, hlo57, hT58, hTab59⟩, e54⟩
          have hs63 := Below.size E
          have hs64 := Below.size e54
          replace E := E.trans e54
          replace hB4 := hB4.ext e54
          replace hB11 := hB11.ext e54
          replace hB19 := hB19.ext e54
          refine Sq.nil ?_
          refine Eq.goes (fun _ => ⟨hB4, hB11⟩) ?_
          refine Gq.three 3 4 5 rfl rfl rfl (by kernel_rfl) ?_ ?_ ?_
          · have hd73 := hB4.lt
            have hd74 := hB11.lt
            have hd75 := hB19.lt
            have hd76 := hT58.lt
            refine Sq.call fn48 .plain rfl rfl (tableOf_c _ b _ _ (hnx'.ext E) (hac'.ext E) hv') ?_
            rintro _ w66 ⟨⟨b68, xs69, rfl, hlo70, hT71, hTab72⟩, e67⟩
            have hs77 := Below.size E
            have hs78 := Below.size e67
            replace E := E.trans e67
            replace hB4 := hB4.ext e67
            replace hB11 := hB11.ext e67
            replace hB19 := hB19.ext e67
            replace hT58 := hT58.ext e67
            refine Sq.nil ?_
            refine Eq.goes (fun _ => ⟨hB4, hB11⟩) ?_
            refine Gq.two 4 5 rfl rfl (by kernel_rfl) ?_ ?_
            · refine Sq.alloc1 zero57 rfl .plain rfl (fun b79 w80 e81 hB82 hlo83 => ?_)
              have hd84 := Nat.le_trans (Below.size E) hlo83
              have hd85 := Nat.lt_of_lt_of_le hB4.lt hlo83
              have hd86 := Nat.lt_of_lt_of_le hB11.lt hlo83
              have hd87 := Nat.lt_of_lt_of_le hB19.lt hlo83
              have hd88 := Nat.lt_of_lt_of_le hT58.lt hlo83
              have hd89 := Nat.lt_of_lt_of_le hT71.lt hlo83
              have hs90 := Below.size e81
              replace E := E.trans e81
              replace hB4 := hB4.ext e81
              replace hB11 := hB11.ext e81
              replace hB19 := hB19.ext e81
              replace hT58 := hT58.ext e81
              replace hT71 := hT71.ext e81
              refine Sq.nil ?_
              refine Eq.goes (fun _ => ⟨hB4, hB11⟩) ?_
              refine Gq.one 5 rfl (by kernel_rfl) ?_
              refine Sq.alloc1 zero57 rfl .plain rfl (fun b91 w92 e93 hB94 hlo95 => ?_)
              have hd96 := Nat.le_trans (Below.size E) hlo95
              have hd97 := Nat.lt_of_lt_of_le hB4.lt hlo95
              have hd98 := Nat.lt_of_lt_of_le hB11.lt hlo95
              have hd99 := Nat.lt_of_lt_of_le hB19.lt hlo95
              have hd100 := Nat.lt_of_lt_of_le hT58.lt hlo95
              have hd101 := Nat.lt_of_lt_of_le hT71.lt hlo95
              have hd102 := Nat.lt_of_lt_of_le hB82.lt hlo95
              have hs103 := Below.size e93
              replace E := E.trans e93
              replace hB4 := hB4.ext e93
              replace hB11 := hB11.ext e93
              replace hB19 := hB19.ext e93
              replace hT58 := hT58.ext e93
              replace hT71 := hT71.ext e93
              replace hB82 := hB82.ext e93
              refine Sq.nil ?_
              refine Eq.goes (fun _ => ⟨hB4, hB11⟩) ?_
              refine Gq.one 6 rfl (by kernel_rfl) ?_
              refine Sq.store one57 .plain rfl rfl rfl hB82 (by simp) (fun w104 g105 hB106 => ?_)
              have hs107 := World.grownBy.size g105
              replace E := E.grown g105 (fun k hk => by injection hk with hk; subst hk; omega)
              replace hB4 := hB4.grown g105 (by intro h; injection h with h; omega)
              replace hB11 := hB11.grown g105 (by intro h; injection h with h; omega)
              replace hB19 := hB19.grown g105 (by intro h; injection h with h; omega)
              replace hT58 := hT58.grown g105 (by intro h; injection h with h; omega)
              replace hT71 := hT71.grown g105 (by intro h; injection h with h; omega)
              replace hB94 := hB94.grown g105 (by intro h; injection h with h; omega)
              replace hB82 := hB106
              refine Sq.nil ?_
              refine Eq.goes (fun _ => ⟨hB4, hB11⟩) ?_
              refine Gq.one 7 rfl (by kernel_rfl) ?_
              refine Sq.store one57 .plain rfl rfl rfl hB94 (by simp) (fun w108 g109 hB110 => ?_)
              have hs111 := World.grownBy.size g109
              replace E := E.grown g109 (fun k hk => by injection hk with hk; subst hk; omega)
              replace hB4 := hB4.grown g109 (by intro h; injection h with h; omega)
              replace hB11 := hB11.grown g109 (by intro h; injection h with h; omega)
              replace hB19 := hB19.grown g109 (by intro h; injection h with h; omega)
              replace hT58 := hT58.grown g109 (by intro h; injection h with h; omega)
              replace hT71 := hT71.grown g109 (by intro h; injection h with h; omega)
              replace hB82 := hB82.grown g109 (by intro h; injection h with h; omega)
              replace hB94 := hB110
              refine Sq.nil ?_
              refine Eq.goes (fun h => absurd h (by decide)) ?_
              refine Gq.done (by kernel_rfl) ?_
              refine Eq.left _ ⟨b79, b91, _, _, _, _, rfl, hB82, hB94, hT58, hT71, hTab59, hTab72, by omega, E, hB4, hB11, hB19⟩ (.cons rfl (.cons rfl (.cons rfl (.cons rfl (.cons rfl (.cons rfl (.cons rfl (.nil))))))))
            refine Sq.alloc1 zero57 rfl .plain rfl (fun b112 w113 e114 hB115 hlo116 => ?_)
            have hd117 := Nat.le_trans (Below.size E) hlo116
            have hd118 := Nat.lt_of_lt_of_le hB4.lt hlo116
            have hd119 := Nat.lt_of_lt_of_le hB11.lt hlo116
            have hd120 := Nat.lt_of_lt_of_le hB19.lt hlo116
            have hd121 := Nat.lt_of_lt_of_le hT58.lt hlo116
            have hd122 := Nat.lt_of_lt_of_le hT71.lt hlo116
            have hs123 := Below.size e114
            replace E := E.trans e114
            replace hB4 := hB4.ext e114
            replace hB11 := hB11.ext e114
            replace hB19 := hB19.ext e114
            replace hT58 := hT58.ext e114
            replace hT71 := hT71.ext e114
            refine Sq.nil ?_
            refine Eq.goes (fun _ => ⟨hB4, hB11⟩) ?_
            refine Gq.one 4 rfl (by kernel_rfl) ?_
            refine Sq.alloc1 zero57 rfl .plain rfl (fun b124 w125 e126 hB127 hlo128 => ?_)
            have hd129 := Nat.le_trans (Below.size E) hlo128
            have hd130 := Nat.lt_of_lt_of_le hB4.lt hlo128
            have hd131 := Nat.lt_of_lt_of_le hB11.lt hlo128
            have hd132 := Nat.lt_of_lt_of_le hB19.lt hlo128
            have hd133 := Nat.lt_of_lt_of_le hT58.lt hlo128
            have hd134 := Nat.lt_of_lt_of_le hT71.lt hlo128
            have hd135 := Nat.lt_of_lt_of_le hB115.lt hlo128
            have hs136 := Below.size e126
            replace E := E.trans e126
            replace hB4 := hB4.ext e126
            replace hB11 := hB11.ext e126
            replace hB19 := hB19.ext e126
            replace hT58 := hT58.ext e126
            replace hT71 := hT71.ext e126
            replace hB115 := hB115.ext e126
            refine Sq.nil ?_
            refine Eq.goes (fun _ => ⟨hB4, hB11⟩) ?_
            refine Gq.one 6 rfl (by kernel_rfl) ?_
            refine Sq.store one57 .plain rfl rfl rfl hB127 (by simp) (fun w137 g138 hB139 => ?_)
            have hs140 := World.grownBy.size g138
            replace E := E.grown g138 (fun k hk => by injection hk with hk; subst hk; omega)
            replace hB4 := hB4.grown g138 (by intro h; injection h with h; omega)
            replace hB11 := hB11.grown g138 (by intro h; injection h with h; omega)
            replace hB19 := hB19.grown g138 (by intro h; injection h with h; omega)
            replace hT58 := hT58.grown g138 (by intro h; injection h with h; omega)
            replace hT71 := hT71.grown g138 (by intro h; injection h with h; omega)
            replace hB115 := hB115.grown g138 (by intro h; injection h with h; omega)
            replace hB127 := hB139
            refine Sq.nil ?_
            refine Eq.goes (fun _ => ⟨hB4, hB11⟩) ?_
            refine Gq.one 7 rfl (by kernel_rfl) ?_
            refine Sq.store one57 .plain rfl rfl rfl hB115 (by simp) (fun w141 g142 hB143 => ?_)
            have hs144 := World.grownBy.size g142
            replace E := E.grown g142 (fun k hk => by injection hk with hk; subst hk; omega)
            replace hB4 := hB4.grown g142 (by intro h; injection h with h; omega)
            replace hB11 := hB11.grown g142 (by intro h; injection h with h; omega)
            replace hB19 := hB19.grown g142 (by intro h; injection h with h; omega)
            replace hT58 := hT58.grown g142 (by intro h; injection h with h; omega)
            replace hT71 := hT71.grown g142 (by intro h; injection h with h; omega)
            replace hB127 := hB127.grown g142 (by intro h; injection h with h; omega)
            replace hB115 := hB143
            refine Sq.nil ?_
            refine Eq.goes (fun h => absurd h (by decide)) ?_
            refine Gq.done (by kernel_rfl) ?_
            refine Eq.left _ ⟨b124, b112, _, _, _, _, rfl, hB127, hB115, hT58, hT71, hTab59, hTab72, by omega, E, hB4, hB11, hB19⟩ (.cons rfl (.cons rfl (.cons rfl (.cons rfl (.cons rfl (.cons rfl (.cons rfl (.nil))))))))
          · refine Sq.alloc1 zero57 rfl .plain rfl (fun b145 w146 e147 hB148 hlo149 => ?_)
            have hd150 := Nat.le_trans (Below.size E) hlo149
            have hd151 := Nat.lt_of_lt_of_le hB4.lt hlo149
            have hd152 := Nat.lt_of_lt_of_le hB11.lt hlo149
            have hd153 := Nat.lt_of_lt_of_le hB19.lt hlo149
            have hd154 := Nat.lt_of_lt_of_le hT58.lt hlo149
            have hs155 := Below.size e147
            replace E := E.trans e147
            replace hB4 := hB4.ext e147
            replace hB11 := hB11.ext e147
            replace hB19 := hB19.ext e147
            replace hT58 := hT58.ext e147
            refine Sq.nil ?_
            refine Eq.goes (fun _ => ⟨hB4, hB11⟩) ?_
            refine Gq.two 3 5 rfl rfl (by kernel_rfl) ?_ ?_
            · have hd164 := hB4.lt
              have hd165 := hB11.lt
              have hd166 := hB19.lt
              have hd167 := hT58.lt
              have hd168 := hB148.lt
              refine Sq.call fn48 .plain rfl rfl (tableOf_c _ b _ _ (hnx'.ext E) (hac'.ext E) hv') ?_
              rintro _ w157 ⟨⟨b159, xs160, rfl, hlo161, hT162, hTab163⟩, e158⟩
              have hs169 := Below.size E
              have hs170 := Below.size e158
              replace E := E.trans e158
              replace hB4 := hB4.ext e158
              replace hB11 := hB11.ext e158
              replace hB19 := hB19.ext e158
              replace hT58 := hT58.ext e158
              replace hB148 := hB148.ext e158
              refine Sq.nil ?_
              refine Eq.goes (fun _ => ⟨hB4, hB11⟩) ?_
              refine Gq.one 5 rfl (by kernel_rfl) ?_
              refine Sq.alloc1 zero57 rfl .plain rfl (fun b171 w172 e173 hB174 hlo175 => ?_)
              have hd176 := Nat.le_trans (Below.size E) hlo175
              have hd177 := Nat.lt_of_lt_of_le hB4.lt hlo175
              have hd178 := Nat.lt_of_lt_of_le hB11.lt hlo175
              have hd179 := Nat.lt_of_lt_of_le hB19.lt hlo175
              have hd180 := Nat.lt_of_lt_of_le hT58.lt hlo175
              have hd181 := Nat.lt_of_lt_of_le hB148.lt hlo175
              have hd182 := Nat.lt_of_lt_of_le hT162.lt hlo175
              have hs183 := Below.size e173
              replace E := E.trans e173
              replace hB4 := hB4.ext e173
              replace hB11 := hB11.ext e173
              replace hB19 := hB19.ext e173
              replace hT58 := hT58.ext e173
              replace hB148 := hB148.ext e173
              replace hT162 := hT162.ext e173
              refine Sq.nil ?_
              refine Eq.goes (fun _ => ⟨hB4, hB11⟩) ?_
              refine Gq.one 6 rfl (by kernel_rfl) ?_
              refine Sq.store one57 .plain rfl rfl rfl hB148 (by simp) (fun w184 g185 hB186 => ?_)
              have hs187 := World.grownBy.size g185
              replace E := E.grown g185 (fun k hk => by injection hk with hk; subst hk; omega)
              replace hB4 := hB4.grown g185 (by intro h; injection h with h; omega)
              replace hB11 := hB11.grown g185 (by intro h; injection h with h; omega)
              replace hB19 := hB19.grown g185 (by intro h; injection h with h; omega)
              replace hT58 := hT58.grown g185 (by intro h; injection h with h; omega)
              replace hT162 := hT162.grown g185 (by intro h; injection h with h; omega)
              replace hB174 := hB174.grown g185 (by intro h; injection h with h; omega)
              replace hB148 := hB186
              refine Sq.nil ?_
              refine Eq.goes (fun _ => ⟨hB4, hB11⟩) ?_
              refine Gq.one 7 rfl (by kernel_rfl) ?_
              refine Sq.store one57 .plain rfl rfl rfl hB174 (by simp) (fun w188 g189 hB190 => ?_)
              have hs191 := World.grownBy.size g189
              replace E := E.grown g189 (fun k hk => by injection hk with hk; subst hk; omega)
              replace hB4 := hB4.grown g189 (by intro h; injection h with h; omega)
              replace hB11 := hB11.grown g189 (by intro h; injection h with h; omega)
              replace hB19 := hB19.grown g189 (by intro h; injection h with h; omega)
              replace hT58 := hT58.grown g189 (by intro h; injection h with h; omega)
              replace hB148 := hB148.grown g189 (by intro h; injection h with h; omega)
              replace hT162 := hT162.grown g189 (by intro h; injection h with h; omega)
              replace hB174 := hB190
              refine Sq.nil ?_
              refine Eq.goes (fun h => absurd h (by decide)) ?_
              refine Gq.done (by kernel_rfl) ?_
              refine Eq.left _ ⟨b145, b171, _, _, _, _, rfl, hB148, hB174, hT58, hT162, hTab59, hTab163, by omega, E, hB4, hB11, hB19⟩ (.cons rfl (.cons rfl (.cons rfl (.cons rfl (.cons rfl (.cons rfl (.cons rfl (.nil))))))))
            refine Sq.alloc1 zero57 rfl .plain rfl (fun b192 w193 e194 hB195 hlo196 => ?_)
            have hd197 := Nat.le_trans (Below.size E) hlo196
            have hd198 := Nat.lt_of_lt_of_le hB4.lt hlo196
            have hd199 := Nat.lt_of_lt_of_le hB11.lt hlo196
            have hd200 := Nat.lt_of_lt_of_le hB19.lt hlo196
            have hd201 := Nat.lt_of_lt_of_le hT58.lt hlo196
            have hd202 := Nat.lt_of_lt_of_le hB148.lt hlo196
            have hs203 := Below.size e194
            replace E := E.trans e194
            replace hB4 := hB4.ext e194
            replace hB11 := hB11.ext e194
            replace hB19 := hB19.ext e194
            replace hT58 := hT58.ext e194
            replace hB148 := hB148.ext e194
            refine Sq.nil ?_
            refine Eq.goes (fun _ => ⟨hB4, hB11⟩) ?_
            refine Gq.one 3 rfl (by kernel_rfl) ?_
            have hd212 := hB4.lt
            have hd213 := hB11.lt
            have hd214 := hB19.lt
            have hd215 := hT58.lt
            have hd216 := hB148.lt
            have hd217 := hB195.lt
            refine Sq.call fn48 .plain rfl rfl (tableOf_c _ b _ _ (hnx'.ext E) (hac'.ext E) hv') ?_
            rintro _ w205 ⟨⟨b207, xs208, rfl, hlo209, hT210, hTab211⟩, e206⟩
            have hs218 := Below.size E
            have hs219 := Below.size e206
            replace E := E.trans e206
            replace hB4 := hB4.ext e206
            replace hB11 := hB11.ext e206
            replace hB19 := hB19.ext e206
            replace hT58 := hT58.ext e206
            replace hB148 := hB148.ext e206
            replace hB195 := hB195.ext e206
            refine Sq.nil ?_
            refine Eq.goes (fun _ => ⟨hB4, hB11⟩) ?_
            refine Gq.one 6 rfl (by kernel_rfl) ?_
            refine Sq.store one57 .plain rfl rfl rfl hB148 (by simp) (fun w220 g221 hB222 => ?_)
            have hs223 := World.grownBy.size g221
            replace E := E.grown g221 (fun k hk => by injection hk with hk; subst hk; omega)
            replace hB4 := hB4.grown g221 (by intro h; injection h with h; omega)
            replace hB11 := hB11.grown g221 (by intro h; injection h with h; omega)
            replace hB19 := hB19.grown g221 (by intro h; injection h with h; omega)
            replace hT58 := hT58.grown g221 (by intro h; injection h with h; omega)
            replace hB195 := hB195.grown g221 (by intro h; injection h with h; omega)
            replace hT210 := hT210.grown g221 (by intro h; injection h with h; omega)
            replace hB148 := hB222
            refine Sq.nil ?_
            refine Eq.goes (fun _ => ⟨hB4, hB11⟩) ?_
            refine Gq.one 7 rfl (by kernel_rfl) ?_
            refine Sq.store one57 .plain rfl rfl rfl hB195 (by simp) (fun w224 g225 hB226 => ?_)
            have hs227 := World.grownBy.size g225
            replace E := E.grown g225 (fun k hk => by injection hk with hk; subst hk; omega)
            replace hB4 := hB4.grown g225 (by intro h; injection h with h; omega)
            replace hB11 := hB11.grown g225 (by intro h; injection h with h; omega)
            replace hB19 := hB19.grown g225 (by intro h; injection h with h; omega)
            replace hT58 := hT58.grown g225 (by intro h; injection h with h; omega)
            replace hB148 := hB148.grown g225 (by intro h; injection h with h; omega)
            replace hT210 := hT210.grown g225 (by intro h; injection h with h; omega)
            replace hB195 := hB226
            refine Sq.nil ?_
            refine Eq.goes (fun h => absurd h (by decide)) ?_
            refine Gq.done (by kernel_rfl) ?_
            refine Eq.left _ ⟨b145, b192, _, _, _, _, rfl, hB148, hB195, hT58, hT210, hTab59, hTab211, by omega, E, hB4, hB11, hB19⟩ (.cons rfl (.cons rfl (.cons rfl (.cons rfl (.cons rfl (.cons rfl (.cons rfl (.nil))))))))
          refine Sq.alloc1 zero57 rfl .plain rfl (fun b228 w229 e230 hB231 hlo232 => ?_)
          have hd233 := Nat.le_trans (Below.size E) hlo232
          have hd234 := Nat.lt_of_lt_of_le hB4.lt hlo232
          have hd235 := Nat.lt_of_lt_of_le hB11.lt hlo232
          have hd236 := Nat.lt_of_lt_of_le hB19.lt hlo232
          have hd237 := Nat.lt_of_lt_of_le hT58.lt hlo232
          have hs238 := Below.size e230
          replace E := E.trans e230
          replace hB4 := hB4.ext e230
          replace hB11 := hB11.ext e230
          replace hB19 := hB19.ext e230
          replace hT58 := hT58.ext e230
          refine Sq.nil ?_
          refine Eq.goes (fun _ => ⟨hB4, hB11⟩) ?_
          refine Gq.two 3 4 rfl rfl (by kernel_rfl) ?_ ?_
          · have hd247 := hB4.lt
            have hd248 := hB11.lt
            have hd249 := hB19.lt
            have hd250 := hT58.lt
            have hd251 := hB231.lt
            refine Sq.call fn48 .plain rfl rfl (tableOf_c _ b _ _ (hnx'.ext E) (hac'.ext E) hv') ?_
            rintro _ w240 ⟨⟨b242, xs243, rfl, hlo244, hT245, hTab246⟩, e241⟩
            have hs252 := Below.size E
            have hs253 := Below.size e241
            replace E := E.trans e241
            replace hB4 := hB4.ext e241
            replace hB11 := hB11.ext e241
            replace hB19 := hB19.ext e241
            replace hT58 := hT58.ext e241
            replace hB231 := hB231.ext e241
            refine Sq.nil ?_
            refine Eq.goes (fun _ => ⟨hB4, hB11⟩) ?_
            refine Gq.one 4 rfl (by kernel_rfl) ?_
            refine Sq.alloc1 zero57 rfl .plain rfl (fun b254 w255 e256 hB257 hlo258 => ?_)
            have hd259 := Nat.le_trans (Below.size E) hlo258
            have hd260 := Nat.lt_of_lt_of_le hB4.lt hlo258
            have hd261 := Nat.lt_of_lt_of_le hB11.lt hlo258
            have hd262 := Nat.lt_of_lt_of_le hB19.lt hlo258
            have hd263 := Nat.lt_of_lt_of_le hT58.lt hlo258
            have hd264 := Nat.lt_of_lt_of_le hB231.lt hlo258
            have hd265 := Nat.lt_of_lt_of_le hT245.lt hlo258
            have hs266 := Below.size e256
            replace E := E.trans e256
            replace hB4 := hB4.ext e256
            replace hB11 := hB11.ext e256
            replace hB19 := hB19.ext e256
            replace hT58 := hT58.ext e256
            replace hB231 := hB231.ext e256
            replace hT245 := hT245.ext e256
            refine Sq.nil ?_
            refine Eq.goes (fun _ => ⟨hB4, hB11⟩) ?_
            refine Gq.one 6 rfl (by kernel_rfl) ?_
            refine Sq.store one57 .plain rfl rfl rfl hB257 (by simp) (fun w267 g268 hB269 => ?_)
            have hs270 := World.grownBy.size g268
            replace E := E.grown g268 (fun k hk => by injection hk with hk; subst hk; omega)
            replace hB4 := hB4.grown g268 (by intro h; injection h with h; omega)
            replace hB11 := hB11.grown g268 (by intro h; injection h with h; omega)
            replace hB19 := hB19.grown g268 (by intro h; injection h with h; omega)
            replace hT58 := hT58.grown g268 (by intro h; injection h with h; omega)
            replace hB231 := hB231.grown g268 (by intro h; injection h with h; omega)
            replace hT245 := hT245.grown g268 (by intro h; injection h with h; omega)
            replace hB257 := hB269
            refine Sq.nil ?_
            refine Eq.goes (fun _ => ⟨hB4, hB11⟩) ?_
            refine Gq.one 7 rfl (by kernel_rfl) ?_
            refine Sq.store one57 .plain rfl rfl rfl hB231 (by simp) (fun w271 g272 hB273 => ?_)
            have hs274 := World.grownBy.size g272
            replace E := E.grown g272 (fun k hk => by injection hk with hk; subst hk; omega)
            replace hB4 := hB4.grown g272 (by intro h; injection h with h; omega)
            replace hB11 := hB11.grown g272 (by intro h; injection h with h; omega)
            replace hB19 := hB19.grown g272 (by intro h; injection h with h; omega)
            replace hT58 := hT58.grown g272 (by intro h; injection h with h; omega)
            replace hT245 := hT245.grown g272 (by intro h; injection h with h; omega)
            replace hB257 := hB257.grown g272 (by intro h; injection h with h; omega)
            replace hB231 := hB273
            refine Sq.nil ?_
            refine Eq.goes (fun h => absurd h (by decide)) ?_
            refine Gq.done (by kernel_rfl) ?_
            refine Eq.left _ ⟨b254, b228, _, _, _, _, rfl, hB257, hB231, hT58, hT245, hTab59, hTab246, by omega, E, hB4, hB11, hB19⟩ (.cons rfl (.cons rfl (.cons rfl (.cons rfl (.cons rfl (.cons rfl (.cons rfl (.nil))))))))
          refine Sq.alloc1 zero57 rfl .plain rfl (fun b275 w276 e277 hB278 hlo279 => ?_)
          have hd280 := Nat.le_trans (Below.size E) hlo279
          have hd281 := Nat.lt_of_lt_of_le hB4.lt hlo279
          have hd282 := Nat.lt_of_lt_of_le hB11.lt hlo279
          have hd283 := Nat.lt_of_lt_of_le hB19.lt hlo279
          have hd284 := Nat.lt_of_lt_of_le hT58.lt hlo279
          have hd285 := Nat.lt_of_lt_of_le hB231.lt hlo279
          have hs286 := Below.size e277
          replace E := E.trans e277
          replace hB4 := hB4.ext e277
          replace hB11 := hB11.ext e277
          replace hB19 := hB19.ext e277
          replace hT58 := hT58.ext e277
          replace hB231 := hB231.ext e277
          refine Sq.nil ?_
          refine Eq.goes (fun _ => ⟨hB4, hB11⟩) ?_
          refine Gq.one 3 rfl (by kernel_rfl) ?_
          have hd295 := hB4.lt
          have hd296 := hB11.lt
          have hd297 := hB19.lt
          have hd298 := hT58.lt
          have hd299 := hB231.lt
          have hd300 := hB278.lt
          refine Sq.call fn48 .plain rfl rfl (tableOf_c _ b _ _ (hnx'.ext E) (hac'.ext E) hv') ?_
          rintro _ w288 ⟨⟨b290, xs291, rfl, hlo292, hT293, hTab294⟩, e289⟩
          have hs301 := Below.size E
          have hs302 := Below.size e289
          replace E := E.trans e289
          replace hB4 := hB4.ext e289
          replace hB11 := hB11.ext e289
          replace hB19 := hB19.ext e289
          replace hT58 := hT58.ext e289
          replace hB231 := hB231.ext e289
          replace hB278 := hB278.ext e289
          refine Sq.nil ?_
          refine Eq.goes (fun _ => ⟨hB4, hB11⟩) ?_
          refine Gq.one 6 rfl (by kernel_rfl) ?_
          refine Sq.store one57 .plain rfl rfl rfl hB278 (by simp) (fun w303 g304 hB305 => ?_)
          have hs306 := World.grownBy.size g304
          replace E := E.grown g304 (fun k hk => by injection hk with hk; subst hk; omega)
          replace hB4 := hB4.grown g304 (by intro h; injection h with h; omega)
          replace hB11 := hB11.grown g304 (by intro h; injection h with h; omega)
          replace hB19 := hB19.grown g304 (by intro h; injection h with h; omega)
          replace hT58 := hT58.grown g304 (by intro h; injection h with h; omega)
          replace hB231 := hB231.grown g304 (by intro h; injection h with h; omega)
          replace hT293 := hT293.grown g304 (by intro h; injection h with h; omega)
          replace hB278 := hB305
          refine Sq.nil ?_
          refine Eq.goes (fun _ => ⟨hB4, hB11⟩) ?_
          refine Gq.one 7 rfl (by kernel_rfl) ?_
          refine Sq.store one57 .plain rfl rfl rfl hB231 (by simp) (fun w307 g308 hB309 => ?_)
          have hs310 := World.grownBy.size g308
          replace E := E.grown g308 (fun k hk => by injection hk with hk; subst hk; omega)
          replace hB4 := hB4.grown g308 (by intro h; injection h with h; omega)
          replace hB11 := hB11.grown g308 (by intro h; injection h with h; omega)
          replace hB19 := hB19.grown g308 (by intro h; injection h with h; omega)
          replace hT58 := hT58.grown g308 (by intro h; injection h with h; omega)
          replace hB278 := hB278.grown g308 (by intro h; injection h with h; omega)
          replace hT293 := hT293.grown g308 (by intro h; injection h with h; omega)
          replace hB231 := hB309
          refine Sq.nil ?_
          refine Eq.goes (fun h => absurd h (by decide)) ?_
          refine Gq.done (by kernel_rfl) ?_
          refine Eq.left _ ⟨b275, b228, _, _, _, _, rfl, hB278, hB231, hT58, hT293, hTab59, hTab294, by omega, E, hB4, hB11, hB19⟩ (.cons rfl (.cons rfl (.cons rfl (.cons rfl (.cons rfl (.cons rfl (.cons rfl (.nil))))))))
        · refine Sq.alloc1 zero57 rfl .plain rfl (fun b311 w312 e313 hB314 hlo315 => ?_)
          have hd316 := Nat.le_trans (Below.size E) hlo315
          have hd317 := Nat.lt_of_lt_of_le hB4.lt hlo315
          have hd318 := Nat.lt_of_lt_of_le hB11.lt hlo315
          have hd319 := Nat.lt_of_lt_of_le hB19.lt hlo315
          have hs320 := Below.size e313
          replace E := E.trans e313
          replace hB4 := hB4.ext e313
          replace hB11 := hB11.ext e313
          replace hB19 := hB19.ext e313
          refine Sq.nil ?_
          refine Eq.goes (fun _ => ⟨hB4, hB11⟩) ?_
          refine Gq.two 1 5 rfl rfl (by kernel_rfl) ?_ ?_
          · have hd329 := hB4.lt
            have hd330 := hB11.lt
            have hd331 := hB19.lt
            have hd332 := hB314.lt
            refine Sq.call fn48 .plain rfl rfl (tableOf_c _ a _ _ (hnx.ext E) (hac.ext E) hv) ?_
            rintro _ w322 ⟨⟨b324, xs325, rfl, hlo326, hT327, hTab328⟩, e323⟩
            have hs333 := Below.size E
            have hs334 := Below.size e323
            replace E := E.trans e323
            replace hB4 := hB4.ext e323
            replace hB11 := hB11.ext e323
            replace hB19 := hB19.ext e323
            replace hB314 := hB314.ext e323
            refine Sq.nil ?_
            refine Eq.goes (fun _ => ⟨hB4, hB11⟩) ?_
            refine Gq.two 3 5 rfl rfl (by kernel_rfl) ?_ ?_
            · have hd343 := hB4.lt
              have hd344 := hB11.lt
              have hd345 := hB19.lt
              have hd346 := hB314.lt
              have hd347 := hT327.lt
              refine Sq.call fn48 .plain rfl rfl (tableOf_c _ b _ _ (hnx'.ext E) (hac'.ext E) hv') ?_
              rintro _ w336 ⟨⟨b338, xs339, rfl, hlo340, hT341, hTab342⟩, e337⟩
              have hs348 := Below.size E
              have hs349 := Below.size e337
              replace E := E.trans e337
              replace hB4 := hB4.ext e337
              replace hB11 := hB11.ext e337
              replace hB19 := hB19.ext e337
              replace hB314 := hB314.ext e337
              replace hT327 := hT327.ext e337
              refine Sq.nil ?_
              refine Eq.goes (fun _ => ⟨hB4, hB11⟩) ?_
              refine Gq.one 5 rfl (by kernel_rfl) ?_
              refine Sq.alloc1 zero57 rfl .plain rfl (fun b350 w351 e352 hB353 hlo354 => ?_)
              have hd355 := Nat.le_trans (Below.size E) hlo354
              have hd356 := Nat.lt_of_lt_of_le hB4.lt hlo354
              have hd357 := Nat.lt_of_lt_of_le hB11.lt hlo354
              have hd358 := Nat.lt_of_lt_of_le hB19.lt hlo354
              have hd359 := Nat.lt_of_lt_of_le hB314.lt hlo354
              have hd360 := Nat.lt_of_lt_of_le hT327.lt hlo354
              have hd361 := Nat.lt_of_lt_of_le hT341.lt hlo354
              have hs362 := Below.size e352
              replace E := E.trans e352
              replace hB4 := hB4.ext e352
              replace hB11 := hB11.ext e352
              replace hB19 := hB19.ext e352
              replace hB314 := hB314.ext e352
              replace hT327 := hT327.ext e352
              replace hT341 := hT341.ext e352
              refine Sq.nil ?_
              refine Eq.goes (fun _ => ⟨hB4, hB11⟩) ?_
              refine Gq.one 6 rfl (by kernel_rfl) ?_
              refine Sq.store one57 .plain rfl rfl rfl hB314 (by simp) (fun w363 g364 hB365 => ?_)
              have hs366 := World.grownBy.size g364
              replace E := E.grown g364 (fun k hk => by injection hk with hk; subst hk; omega)
              replace hB4 := hB4.grown g364 (by intro h; injection h with h; omega)
              replace hB11 := hB11.grown g364 (by intro h; injection h with h; omega)
              replace hB19 := hB19.grown g364 (by intro h; injection h with h; omega)
              replace hT327 := hT327.grown g364 (by intro h; injection h with h; omega)
              replace hT341 := hT341.grown g364 (by intro h; injection h with h; omega)
              replace hB353 := hB353.grown g364 (by intro h; injection h with h; omega)
              replace hB314 := hB365
              refine Sq.nil ?_
              refine Eq.goes (fun _ => ⟨hB4, hB11⟩) ?_
              refine Gq.one 7 rfl (by kernel_rfl) ?_
              refine Sq.store one57 .plain rfl rfl rfl hB353 (by simp) (fun w367 g368 hB369 => ?_)
              have hs370 := World.grownBy.size g368
              replace E := E.grown g368 (fun k hk => by injection hk with hk; subst hk; omega)
              replace hB4 := hB4.grown g368 (by intro h; injection h with h; omega)
              replace hB11 := hB11.grown g368 (by intro h; injection h with h; omega)
              replace hB19 := hB19.grown g368 (by intro h; injection h with h; omega)
              replace hB314 := hB314.grown g368 (by intro h; injection h with h; omega)
              replace hT327 := hT327.grown g368 (by intro h; injection h with h; omega)
              replace hT341 := hT341.grown g368 (by intro h; injection h with h; omega)
              replace hB353 := hB369
              refine Sq.nil ?_
              refine Eq.goes (fun h => absurd h (by decide)) ?_
              refine Gq.done (by kernel_rfl) ?_
              refine Eq.left _ ⟨b311, b350, _, _, _, _, rfl, hB314, hB353, hT327, hT341, hTab328, hTab342, by omega, E, hB4, hB11, hB19⟩ (.cons rfl (.cons rfl (.cons rfl (.cons rfl (.cons rfl (.cons rfl (.cons rfl (.nil))))))))
            refine Sq.alloc1 zero57 rfl .plain rfl (fun b371 w372 e373 hB374 hlo375 => ?_)
            have hd376 := Nat.le_trans (Below.size E) hlo375
            have hd377 := Nat.lt_of_lt_of_le hB4.lt hlo375
            have hd378 := Nat.lt_of_lt_of_le hB11.lt hlo375
            have hd379 := Nat.lt_of_lt_of_le hB19.lt hlo375
            have hd380 := Nat.lt_of_lt_of_le hB314.lt hlo375
            have hd381 := Nat.lt_of_lt_of_le hT327.lt hlo375
            have hs382 := Below.size e373
            replace E := E.trans e373
            replace hB4 := hB4.ext e373
            replace hB11 := hB11.ext e373
            replace hB19 := hB19.ext e373
            replace hB314 := hB314.ext e373
            replace hT327 := hT327.ext e373
            refine Sq.nil ?_
            refine Eq.goes (fun _ => ⟨hB4, hB11⟩) ?_
            refine Gq.one 3 rfl (by kernel_rfl) ?_
            have hd391 := hB4.lt
            have hd392 := hB11.lt
            have hd393 := hB19.lt
            have hd394 := hB314.lt
            have hd395 := hT327.lt
            have hd396 := hB374.lt
            refine Sq.call fn48 .plain rfl rfl (tableOf_c _ b _ _ (hnx'.ext E) (hac'.ext E) hv') ?_
            rintro _ w384 ⟨⟨b386, xs387, rfl, hlo388, hT389, hTab390⟩, e385⟩
            have hs397 := Below.size E
            have hs398 := Below.size e385
            replace E := E.trans e385
            replace hB4 := hB4.ext e385
            replace hB11 := hB11.ext e385
            replace hB19 := hB19.ext e385
            replace hB314 := hB314.ext e385
            replace hT327 := hT327.ext e385
            replace hB374 := hB374.ext e385
            refine Sq.nil ?_
            refine Eq.goes (fun _ => ⟨hB4, hB11⟩) ?_
            refine Gq.one 6 rfl (by kernel_rfl) ?_
            refine Sq.store one57 .plain rfl rfl rfl hB314 (by simp) (fun w399 g400 hB401 => ?_)
            have hs402 := World.grownBy.size g400
            replace E := E.grown g400 (fun k hk => by injection hk with hk; subst hk; omega)
            replace hB4 := hB4.grown g400 (by intro h; injection h with h; omega)
            replace hB11 := hB11.grown g400 (by intro h; injection h with h; omega)
            replace hB19 := hB19.grown g400 (by intro h; injection h with h; omega)
            replace hT327 := hT327.grown g400 (by intro h; injection h with h; omega)
            replace hB374 := hB374.grown g400 (by intro h; injection h with h; omega)
            replace hT389 := hT389.grown g400 (by intro h; injection h with h; omega)
            replace hB314 := hB401
            refine Sq.nil ?_
            refine Eq.goes (fun _ => ⟨hB4, hB11⟩) ?_
            refine Gq.one 7 rfl (by kernel_rfl) ?_
            refine Sq.store one57 .plain rfl rfl rfl hB374 (by simp) (fun w403 g404 hB405 => ?_)
            have hs406 := World.grownBy.size g404
            replace E := E.grown g404 (fun k hk => by injection hk with hk; subst hk; omega)
            replace hB4 := hB4.grown g404 (by intro h; injection h with h; omega)
            replace hB11 := hB11.grown g404 (by intro h; injection h with h; omega)
            replace hB19 := hB19.grown g404 (by intro h; injection h with h; omega)
            replace hB314 := hB314.grown g404 (by intro h; injection h with h; omega)
            replace hT327 := hT327.grown g404 (by intro h; injection h with h; omega)
            replace hT389 := hT389.grown g404 (by intro h; injection h with h; omega)
            replace hB374 := hB405
            refine Sq.nil ?_
            refine Eq.goes (fun h => absurd h (by decide)) ?_
            refine Gq.done (by kernel_rfl) ?_
            refine Eq.left _ ⟨b311, b371, _, _, _, _, rfl, hB314, hB374, hT327, hT389, hTab328, hTab390, by omega, E, hB4, hB11, hB19⟩ (.cons rfl (.cons rfl (.cons rfl (.cons rfl (.cons rfl (.cons rfl (.cons rfl (.nil))))))))
          refine Sq.alloc1 zero57 rfl .plain rfl (fun b407 w408 e409 hB410 hlo411 => ?_)
          have hd412 := Nat.le_trans (Below.size E) hlo411
          have hd413 := Nat.lt_of_lt_of_le hB4.lt hlo411
          have hd414 := Nat.lt_of_lt_of_le hB11.lt hlo411
          have hd415 := Nat.lt_of_lt_of_le hB19.lt hlo411
          have hd416 := Nat.lt_of_lt_of_le hB314.lt hlo411
          have hs417 := Below.size e409
          replace E := E.trans e409
          replace hB4 := hB4.ext e409
          replace hB11 := hB11.ext e409
          replace hB19 := hB19.ext e409
          replace hB314 := hB314.ext e409
          refine Sq.nil ?_
          refine Eq.goes (fun _ => ⟨hB4, hB11⟩) ?_
          refine Gq.one 1 rfl (by kernel_rfl) ?_
          have hd426 := hB4.lt
          have hd427 := hB11.lt
          have hd428 := hB19.lt
          have hd429 := hB314.lt
          have hd430 := hB410.lt
          refine Sq.call fn48 .plain rfl rfl (tableOf_c _ a _ _ (hnx.ext E) (hac.ext E) hv) ?_
          rintro _ w419 ⟨⟨b421, xs422, rfl, hlo423, hT424, hTab425⟩, e420⟩
          have hs431 := Below.size E
          have hs432 := Below.size e420
          replace E := E.trans e420
          replace hB4 := hB4.ext e420
          replace hB11 := hB11.ext e420
          replace hB19 := hB19.ext e420
          replace hB314 := hB314.ext e420
          replace hB410 := hB410.ext e420
          refine Sq.nil ?_
          refine Eq.goes (fun _ => ⟨hB4, hB11⟩) ?_
          refine Gq.one 3 rfl (by kernel_rfl) ?_
          have hd441 := hB4.lt
          have hd442 := hB11.lt
          have hd443 := hB19.lt
          have hd444 := hB314.lt
          have hd445 := hB410.lt
          have hd446 := hT424.lt
          refine Sq.call fn48 .plain rfl rfl (tableOf_c _ b _ _ (hnx'.ext E) (hac'.ext E) hv') ?_
          rintro _ w434 ⟨⟨b436, xs437, rfl, hlo438, hT439, hTab440⟩, e435⟩
          have hs447 := Below.size E
          have hs448 := Below.size e435
          replace E := E.trans e435
          replace hB4 := hB4.ext e435
          replace hB11 := hB11.ext e435
          replace hB19 := hB19.ext e435
          replace hB314 := hB314.ext e435
          replace hB410 := hB410.ext e435
          replace hT424 := hT424.ext e435
          refine Sq.nil ?_
          refine Eq.goes (fun _ => ⟨hB4, hB11⟩) ?_
          refine Gq.one 6 rfl (by kernel_rfl) ?_
          refine Sq.store one57 .plain rfl rfl rfl hB314 (by simp) (fun w449 g450 hB451 => ?_)
          have hs452 := World.grownBy.size g450
          replace E := E.grown g450 (fun k hk => by injection hk with hk; subst hk; omega)
          replace hB4 := hB4.grown g450 (by intro h; injection h with h; omega)
          replace hB11 := hB11.grown g450 (by intro h; injection h with h; omega)
          replace hB19 := hB19.grown g450 (by intro h; injection h with h; omega)
          replace hB410 := hB410.grown g450 (by intro h; injection h with h; omega)
          replace hT424 := hT424.grown g450 (by intro h; injection h with h; omega)
          replace hT439 := hT439.grown g450 (by intro h; injection h with h; omega)
          replace hB314 := hB451
          refine Sq.nil ?_
          refine Eq.goes (fun _ => ⟨hB4, hB11⟩) ?_
          refine Gq.one 7 rfl (by kernel_rfl) ?_
          refine Sq.store one57 .plain rfl rfl rfl hB410 (by simp) (fun w453 g454 hB455 => ?_)
          have hs456 := World.grownBy.size g454
          replace E := E.grown g454 (fun k hk => by injection hk with hk; subst hk; omega)
          replace hB4 := hB4.grown g454 (by intro h; injection h with h; omega)
          replace hB11 := hB11.grown g454 (by intro h; injection h with h; omega)
          replace hB19 := hB19.grown g454 (by intro h; injection h with h; omega)
          replace hB314 := hB314.grown g454 (by intro h; injection h with h; omega)
          replace hT424 := hT424.grown g454 (by intro h; injection h with h; omega)
          replace hT439 := hT439.grown g454 (by intro h; injection h with h; omega)
          replace hB410 := hB455
          refine Sq.nil ?_
          refine Eq.goes (fun h => absurd h (by decide)) ?_
          refine Gq.done (by kernel_rfl) ?_
          refine Eq.left _ ⟨b311, b407, _, _, _, _, rfl, hB314, hB410, hT424, hT439, hTab425, hTab440, by omega, E, hB4, hB11, hB19⟩ (.cons rfl (.cons rfl (.cons rfl (.cons rfl (.cons rfl (.cons rfl (.cons rfl (.nil))))))))
        refine Sq.alloc1 zero57 rfl .plain rfl (fun b457 w458 e459 hB460 hlo461 => ?_)
        have hd462 := Nat.le_trans (Below.size E) hlo461
        have hd463 := Nat.lt_of_lt_of_le hB4.lt hlo461
        have hd464 := Nat.lt_of_lt_of_le hB11.lt hlo461
        have hd465 := Nat.lt_of_lt_of_le hB19.lt hlo461
        have hs466 := Below.size e459
        replace E := E.trans e459
        replace hB4 := hB4.ext e459
        replace hB11 := hB11.ext e459
        replace hB19 := hB19.ext e459
        refine Sq.nil ?_
        refine Eq.goes (fun _ => ⟨hB4, hB11⟩) ?_
        refine Gq.two 1 4 rfl rfl (by kernel_rfl) ?_ ?_
        · have hd475 := hB4.lt
          have hd476 := hB11.lt
          have hd477 := hB19.lt
          have hd478 := hB460.lt
          refine Sq.call fn48 .plain rfl rfl (tableOf_c _ a _ _ (hnx.ext E) (hac.ext E) hv) ?_
          rintro _ w468 ⟨⟨b470, xs471, rfl, hlo472, hT473, hTab474⟩, e469⟩
          have hs479 := Below.size E
          have hs480 := Below.size e469
          replace E := E.trans e469
          replace hB4 := hB4.ext e469
          replace hB11 := hB11.ext e469
          replace hB19 := hB19.ext e469
          replace hB460 := hB460.ext e469
          refine Sq.nil ?_
          refine Eq.goes (fun _ => ⟨hB4, hB11⟩) ?_
          refine Gq.two 3 4 rfl rfl (by kernel_rfl) ?_ ?_
          · have hd489 := hB4.lt
            have hd490 := hB11.lt
            have hd491 := hB19.lt
            have hd492 := hB460.lt
            have hd493 := hT473.lt
            refine Sq.call fn48 .plain rfl rfl (tableOf_c _ b _ _ (hnx'.ext E) (hac'.ext E) hv') ?_
            rintro _ w482 ⟨⟨b484, xs485, rfl, hlo486, hT487, hTab488⟩, e483⟩
            have hs494 := Below.size E
            have hs495 := Below.size e483
            replace E := E.trans e483
            replace hB4 := hB4.ext e483
            replace hB11 := hB11.ext e483
            replace hB19 := hB19.ext e483
            replace hB460 := hB460.ext e483
            replace hT473 := hT473.ext e483
            refine Sq.nil ?_
            refine Eq.goes (fun _ => ⟨hB4, hB11⟩) ?_
            refine Gq.one 4 rfl (by kernel_rfl) ?_
            refine Sq.alloc1 zero57 rfl .plain rfl (fun b496 w497 e498 hB499 hlo500 => ?_)
            have hd501 := Nat.le_trans (Below.size E) hlo500
            have hd502 := Nat.lt_of_lt_of_le hB4.lt hlo500
            have hd503 := Nat.lt_of_lt_of_le hB11.lt hlo500
            have hd504 := Nat.lt_of_lt_of_le hB19.lt hlo500
            have hd505 := Nat.lt_of_lt_of_le hB460.lt hlo500
            have hd506 := Nat.lt_of_lt_of_le hT473.lt hlo500
            have hd507 := Nat.lt_of_lt_of_le hT487.lt hlo500
            have hs508 := Below.size e498
            replace E := E.trans e498
            replace hB4 := hB4.ext e498
            replace hB11 := hB11.ext e498
            replace hB19 := hB19.ext e498
            replace hB460 := hB460.ext e498
            replace hT473 := hT473.ext e498
            replace hT487 := hT487.ext e498
            refine Sq.nil ?_
            refine Eq.goes (fun _ => ⟨hB4, hB11⟩) ?_
            refine Gq.one 6 rfl (by kernel_rfl) ?_
            refine Sq.store one57 .plain rfl rfl rfl hB499 (by simp) (fun w509 g510 hB511 => ?_)
            have hs512 := World.grownBy.size g510
            replace E := E.grown g510 (fun k hk => by injection hk with hk; subst hk; omega)
            replace hB4 := hB4.grown g510 (by intro h; injection h with h; omega)
            replace hB11 := hB11.grown g510 (by intro h; injection h with h; omega)
            replace hB19 := hB19.grown g510 (by intro h; injection h with h; omega)
            replace hB460 := hB460.grown g510 (by intro h; injection h with h; omega)
            replace hT473 := hT473.grown g510 (by intro h; injection h with h; omega)
            replace hT487 := hT487.grown g510 (by intro h; injection h with h; omega)
            replace hB499 := hB511
            refine Sq.nil ?_
            refine Eq.goes (fun _ => ⟨hB4, hB11⟩) ?_
            refine Gq.one 7 rfl (by kernel_rfl) ?_
            refine Sq.store one57 .plain rfl rfl rfl hB460 (by simp) (fun w513 g514 hB515 => ?_)
            have hs516 := World.grownBy.size g514
            replace E := E.grown g514 (fun k hk => by injection hk with hk; subst hk; omega)
            replace hB4 := hB4.grown g514 (by intro h; injection h with h; omega)
            replace hB11 := hB11.grown g514 (by intro h; injection h with h; omega)
            replace hB19 := hB19.grown g514 (by intro h; injection h with h; omega)
            replace hT473 := hT473.grown g514 (by intro h; injection h with h; omega)
            replace hT487 := hT487.grown g514 (by intro h; injection h with h; omega)
            replace hB499 := hB499.grown g514 (by intro h; injection h with h; omega)
            replace hB460 := hB515
            refine Sq.nil ?_
            refine Eq.goes (fun h => absurd h (by decide)) ?_
            refine Gq.done (by kernel_rfl) ?_
            refine Eq.left _ ⟨b496, b457, _, _, _, _, rfl, hB499, hB460, hT473, hT487, hTab474, hTab488, by omega, E, hB4, hB11, hB19⟩ (.cons rfl (.cons rfl (.cons rfl (.cons rfl (.cons rfl (.cons rfl (.cons rfl (.nil))))))))
          refine Sq.alloc1 zero57 rfl .plain rfl (fun b517 w518 e519 hB520 hlo521 => ?_)
          have hd522 := Nat.le_trans (Below.size E) hlo521
          have hd523 := Nat.lt_of_lt_of_le hB4.lt hlo521
          have hd524 := Nat.lt_of_lt_of_le hB11.lt hlo521
          have hd525 := Nat.lt_of_lt_of_le hB19.lt hlo521
          have hd526 := Nat.lt_of_lt_of_le hB460.lt hlo521
          have hd527 := Nat.lt_of_lt_of_le hT473.lt hlo521
          have hs528 := Below.size e519
          replace E := E.trans e519
          replace hB4 := hB4.ext e519
          replace hB11 := hB11.ext e519
          replace hB19 := hB19.ext e519
          replace hB460 := hB460.ext e519
          replace hT473 := hT473.ext e519
          refine Sq.nil ?_
          refine Eq.goes (fun _ => ⟨hB4, hB11⟩) ?_
          refine Gq.one 3 rfl (by kernel_rfl) ?_
          have hd537 := hB4.lt
          have hd538 := hB11.lt
          have hd539 := hB19.lt
          have hd540 := hB460.lt
          have hd541 := hT473.lt
          have hd542 := hB520.lt
          refine Sq.call fn48 .plain rfl rfl (tableOf_c _ b _ _ (hnx'.ext E) (hac'.ext E) hv') ?_
          rintro _ w530 ⟨⟨b532, xs533, rfl, hlo534, hT535, hTab536⟩, e531⟩
          have hs543 := Below.size E
          have hs544 := Below.size e531
          replace E := E.trans e531
          replace hB4 := hB4.ext e531
          replace hB11 := hB11.ext e531
          replace hB19 := hB19.ext e531
          replace hB460 := hB460.ext e531
          replace hT473 := hT473.ext e531
          replace hB520 := hB520.ext e531
          refine Sq.nil ?_
          refine Eq.goes (fun _ => ⟨hB4, hB11⟩) ?_
          refine Gq.one 6 rfl (by kernel_rfl) ?_
          refine Sq.store one57 .plain rfl rfl rfl hB520 (by simp) (fun w545 g546 hB547 => ?_)
          have hs548 := World.grownBy.size g546
          replace E := E.grown g546 (fun k hk => by injection hk with hk; subst hk; omega)
          replace hB4 := hB4.grown g546 (by intro h; injection h with h; omega)
          replace hB11 := hB11.grown g546 (by intro h; injection h with h; omega)
          replace hB19 := hB19.grown g546 (by intro h; injection h with h; omega)
          replace hB460 := hB460.grown g546 (by intro h; injection h with h; omega)
          replace hT473 := hT473.grown g546 (by intro h; injection h with h; omega)
          replace hT535 := hT535.grown g546 (by intro h; injection h with h; omega)
          replace hB520 := hB547
          refine Sq.nil ?_
          refine Eq.goes (fun _ => ⟨hB4, hB11⟩) ?_
          refine Gq.one 7 rfl (by kernel_rfl) ?_
          refine Sq.store one57 .plain rfl rfl rfl hB460 (by simp) (fun w549 g550 hB551 => ?_)
          have hs552 := World.grownBy.size g550
          replace E := E.grown g550 (fun k hk => by injection hk with hk; subst hk; omega)
          replace hB4 := hB4.grown g550 (by intro h; injection h with h; omega)
          replace hB11 := hB11.grown g550 (by intro h; injection h with h; omega)
          replace hB19 := hB19.grown g550 (by intro h; injection h with h; omega)
          replace hT473 := hT473.grown g550 (by intro h; injection h with h; omega)
          replace hB520 := hB520.grown g550 (by intro h; injection h with h; omega)
          replace hT535 := hT535.grown g550 (by intro h; injection h with h; omega)
          replace hB460 := hB551
          refine Sq.nil ?_
          refine Eq.goes (fun h => absurd h (by decide)) ?_
          refine Gq.done (by kernel_rfl) ?_
          refine Eq.left _ ⟨b517, b457, _, _, _, _, rfl, hB520, hB460, hT473, hT535, hTab474, hTab536, by omega, E, hB4, hB11, hB19⟩ (.cons rfl (.cons rfl (.cons rfl (.cons rfl (.cons rfl (.cons rfl (.cons rfl (.nil))))))))
        refine Sq.alloc1 zero57 rfl .plain rfl (fun b553 w554 e555 hB556 hlo557 => ?_)
        have hd558 := Nat.le_trans (Below.size E) hlo557
        have hd559 := Nat.lt_of_lt_of_le hB4.lt hlo557
        have hd560 := Nat.lt_of_lt_of_le hB11.lt hlo557
        have hd561 := Nat.lt_of_lt_of_le hB19.lt hlo557
        have hd562 := Nat.lt_of_lt_of_le hB460.lt hlo557
        have hs563 := Below.size e555
        replace E := E.trans e555
        replace hB4 := hB4.ext e555
        replace hB11 := hB11.ext e555
        replace hB19 := hB19.ext e555
        replace hB460 := hB460.ext e555
        refine Sq.nil ?_
        refine Eq.goes (fun _ => ⟨hB4, hB11⟩) ?_
        refine Gq.one 1 rfl (by kernel_rfl) ?_
        have hd572 := hB4.lt
        have hd573 := hB11.lt
        have hd574 := hB19.lt
        have hd575 := hB460.lt
        have hd576 := hB556.lt
        refine Sq.call fn48 .plain rfl rfl (tableOf_c _ a _ _ (hnx.ext E) (hac.ext E) hv) ?_
        rintro _ w565 ⟨⟨b567, xs568, rfl, hlo569, hT570, hTab571⟩, e566⟩
        have hs577 := Below.size E
        have hs578 := Below.size e566
        replace E := E.trans e566
        replace hB4 := hB4.ext e566
        replace hB11 := hB11.ext e566
        replace hB19 := hB19.ext e566
        replace hB460 := hB460.ext e566
        replace hB556 := hB556.ext e566
        refine Sq.nil ?_
        refine Eq.goes (fun _ => ⟨hB4, hB11⟩) ?_
        refine Gq.one 3 rfl (by kernel_rfl) ?_
        have hd587 := hB4.lt
        have hd588 := hB11.lt
        have hd589 := hB19.lt
        have hd590 := hB460.lt
        have hd591 := hB556.lt
        have hd592 := hT570.lt
        refine Sq.call fn48 .plain rfl rfl (tableOf_c _ b _ _ (hnx'.ext E) (hac'.ext E) hv') ?_
        rintro _ w580 ⟨⟨b582, xs583, rfl, hlo584, hT585, hTab586⟩, e581⟩
        have hs593 := Below.size E
        have hs594 := Below.size e581
        replace E := E.trans e581
        replace hB4 := hB4.ext e581
        replace hB11 := hB11.ext e581
        replace hB19 := hB19.ext e581
        replace hB460 := hB460.ext e581
        replace hB556 := hB556.ext e581
        replace hT570 := hT570.ext e581
        refine Sq.nil ?_
        refine Eq.goes (fun _ => ⟨hB4, hB11⟩) ?_
        refine Gq.one 6 rfl (by kernel_rfl) ?_
        refine Sq.store one57 .plain rfl rfl rfl hB556 (by simp) (fun w595 g596 hB597 => ?_)
        have hs598 := World.grownBy.size g596
        replace E := E.grown g596 (fun k hk => by injection hk with hk; subst hk; omega)
        replace hB4 := hB4.grown g596 (by intro h; injection h with h; omega)
        replace hB11 := hB11.grown g596 (by intro h; injection h with h; omega)
        replace hB19 := hB19.grown g596 (by intro h; injection h with h; omega)
        replace hB460 := hB460.grown g596 (by intro h; injection h with h; omega)
        replace hT570 := hT570.grown g596 (by intro h; injection h with h; omega)
        replace hT585 := hT585.grown g596 (by intro h; injection h with h; omega)
        replace hB556 := hB597
        refine Sq.nil ?_
        refine Eq.goes (fun _ => ⟨hB4, hB11⟩) ?_
        refine Gq.one 7 rfl (by kernel_rfl) ?_
        refine Sq.store one57 .plain rfl rfl rfl hB460 (by simp) (fun w599 g600 hB601 => ?_)
        have hs602 := World.grownBy.size g600
        replace E := E.grown g600 (fun k hk => by injection hk with hk; subst hk; omega)
        replace hB4 := hB4.grown g600 (by intro h; injection h with h; omega)
        replace hB11 := hB11.grown g600 (by intro h; injection h with h; omega)
        replace hB19 := hB19.grown g600 (by intro h; injection h with h; omega)
        replace hB556 := hB556.grown g600 (by intro h; injection h with h; omega)
        replace hT570 := hT570.grown g600 (by intro h; injection h with h; omega)
        replace hT585 := hT585.grown g600 (by intro h; injection h with h; omega)
        replace hB460 := hB601
        refine Sq.nil ?_
        refine Eq.goes (fun h => absurd h (by decide)) ?_
        refine Gq.done (by kernel_rfl) ?_
        refine Eq.left _ ⟨b553, b457, _, _, _, _, rfl, hB556, hB460, hT570, hT585, hTab571, hTab586, by omega, E, hB4, hB11, hB19⟩ (.cons rfl (.cons rfl (.cons rfl (.cons rfl (.cons rfl (.cons rfl (.cons rfl (.nil))))))))
      rintro ls wc3 ⟨c8, c9, t1, t2, xs, ys0, rfl, hP1, hP2, hT1, hT2, hTab, hTab', hbb, E, hB4, hB11, hB19⟩
      have hs603 := Below.size E
      have hpal := prod_al hv hv'
      refine Eq.next ?_
      refine Cq.seq ?_
      refine Cq.region ?_
      refine Sq.loadB one57 .plain rfl rfl hP2 rfl ?_
      refine Sq.len .plain rfl und57 rfl ?_
      refine Sq.alloc1 zero3 rfl .plain rfl (fun b604 w605 e606 hB607 hlo608 => ?_)
      have hd609 := Nat.le_trans (Below.size E) hlo608
      have hd610 := Nat.lt_of_lt_of_le hB4.lt hlo608
      have hd611 := Nat.lt_of_lt_of_le hB11.lt hlo608
      have hd612 := Nat.lt_of_lt_of_le hB19.lt hlo608
      have hd613 := Nat.lt_of_lt_of_le hP1.lt hlo608
      have hd614 := Nat.lt_of_lt_of_le hP2.lt hlo608
      have hd615 := Nat.lt_of_lt_of_le hT1.lt hlo608
      have hd616 := Nat.lt_of_lt_of_le hT2.lt hlo608
      have hs617 := Below.size e606
      replace E := E.trans e606
      replace hB4 := hB4.ext e606
      replace hB11 := hB11.ext e606
      replace hB19 := hB19.ext e606
      replace hP1 := hP1.ext e606
      replace hP2 := hP2.ext e606
      replace hT1 := hT1.ext e606
      replace hT2 := hT2.ext e606
      refine Sq.store one3 .plain rfl rfl rfl hB607 (by simp) (fun w618 g619 hB620 => ?_)
      have hs621 := World.grownBy.size g619
      replace E := E.grown g619 (fun k hk => by injection hk with hk; subst hk; omega)
      replace hB4 := hB4.grown g619 (by intro h; injection h with h; omega)
      replace hB11 := hB11.grown g619 (by intro h; injection h with h; omega)
      replace hB19 := hB19.grown g619 (by intro h; injection h with h; omega)
      replace hP1 := hP1.grown g619 (by intro h; injection h with h; omega)
      replace hP2 := hP2.grown g619 (by intro h; injection h with h; omega)
      replace hT1 := hT1.grown g619 (by intro h; injection h with h; omega)
      replace hT2 := hT2.grown g619 (by intro h; injection h with h; omega)
      replace hB607 := hB620
      refine Sq.nil ?_
      refine Eq.next ?_
      refine Cq.seq ?_
      refine Cq.region ?_
      refine Sq.fieldAddr fld26_0 .plain rfl rfl ?_
      refine Sq.loadB one3 .plain rfl rfl hB4 rfl ?_
      refine Sq.fieldAddr fld26_0 .plain rfl rfl ?_
      refine Sq.loadB one3 .plain rfl rfl hB11 rfl ?_
      refine Sq.or .plain rfl rfl rfl (by have := (validA_spec.1 hv).1; have := (validA_spec.1 hv').1; omega) ?_
      refine Sq.build st26 rfl rfl .plain rfl rfl (one_cons rfl one_nil) rfl ?_
      refine Sq.alloc zero26 .plain rfl (fun b622 w623 e624 hB625 hlo626 => ?_)
      have hd627 := Nat.le_trans (Below.size E) hlo626
      have hd628 := Nat.lt_of_lt_of_le hB4.lt hlo626
      have hd629 := Nat.lt_of_lt_of_le hB11.lt hlo626
      have hd630 := Nat.lt_of_lt_of_le hB19.lt hlo626
      have hd631 := Nat.lt_of_lt_of_le hP1.lt hlo626
      have hd632 := Nat.lt_of_lt_of_le hP2.lt hlo626
      have hd633 := Nat.lt_of_lt_of_le hT1.lt hlo626
      have hd634 := Nat.lt_of_lt_of_le hT2.lt hlo626
      have hd635 := Nat.lt_of_lt_of_le hB607.lt hlo626
      have hs636 := Below.size e624
      replace E := E.trans e624
      replace hB4 := hB4.ext e624
      replace hB11 := hB11.ext e624
      replace hB19 := hB19.ext e624
      replace hP1 := hP1.ext e624
      replace hP2 := hP2.ext e624
      replace hT1 := hT1.ext e624
      replace hT2 := hT2.ext e624
      replace hB607 := hB607.ext e624
      refine Sq.storeAgg agg26 .plain rfl rfl (one_cons rfl (one_cons rfl (one_cons rfl one_nil))) hB625 rfl rfl (fun w637 g638 hB639 => ?_)
      have hs640 := World.grownBy.size g638
      replace E := E.grown g638 (fun k hk => by injection hk with hk; subst hk; omega)
      replace hB4 := hB4.grown g638 (by intro h; injection h with h; omega)
      replace hB11 := hB11.grown g638 (by intro h; injection h with h; omega)
      replace hB19 := hB19.grown g638 (by intro h; injection h with h; omega)
      replace hP1 := hP1.grown g638 (by intro h; injection h with h; omega)
      replace hP2 := hP2.grown g638 (by intro h; injection h with h; omega)
      replace hT1 := hT1.grown g638 (by intro h; injection h with h; omega)
      replace hT2 := hT2.grown g638 (by intro h; injection h with h; omega)
      replace hB607 := hB607.grown g638 (by intro h; injection h with h; omega)
      replace hB625 := hB639
      refine Sq.nil ?_
      refine Eq.next ?_
      refine Cq.seq ?_
      refine Cq.region ?_
      refine Sq.fieldAddr fld26_0 .plain rfl rfl ?_
      refine Sq.loadB one3 .plain rfl rfl hB625 rfl ?_
      have hd645 := hB4.lt
      have hd646 := hB11.lt
      have hd647 := hB19.lt
      have hd648 := hP1.lt
      have hd649 := hP2.lt
      have hd650 := hT1.lt
      have hd651 := hT2.lt
      have hd652 := hB607.lt
      have hd653 := hB625.lt
      refine Sq.call fn50 .plain rfl rfl (lettersOf_c (orI a.al b.al) (by omega) _) ?_
      rintro v641 w642 ⟨hl644, e643⟩
      have hs654 := Below.size E
      have hs655 := Below.size e643
      replace E := E.trans e643
      replace hB4 := hB4.ext e643
      replace hB11 := hB11.ext e643
      replace hB19 := hB19.ext e643
      replace hP1 := hP1.ext e643
      replace hP2 := hP2.ext e643
      replace hT1 := hT1.ext e643
      replace hT2 := hT2.ext e643
      replace hB607 := hB607.ext e643
      replace hB625 := hB625.ext e643
      refine Sq.makeFunc .plain rfl rfl ?_
      have hd664 := hB4.lt
      have hd665 := hB11.lt
      have hd666 := hB19.lt
      have hd667 := hP1.lt
      have hd668 := hP2.lt
      have hd669 := hT1.lt
      have hd670 := hT2.lt
      have hd671 := hB607.lt
      have hd672 := hB625.lt
      have hlet := letters_len6 (orI a.al b.al)
      refine Sq.call fn49 .plain rfl rfl (numbered_c _ (fP a b) 0 (letters (orI a.al b.al)) _ _ 12 (fun q => InP a b q) (by omega) (Own.row hl644) (by omega) (fun x hx => ⟨(mem_letters hx).1, (mem_letters hx).2.1⟩) (zero_inP hv hv') (fun q hq x hx => fP_in hv hv' hq ⟨(mem_letters hx).1, (mem_letters hx).2.1⟩) (fun i => Nat.le_trans (fP_bfs_len hv hv' _ i) (by omega)) ⟨51, _, [Value.pointer (some ⟨c8, 0, none⟩), Value.pointer (some ⟨b604, 0, none⟩), Value.pointer (some ⟨c9, 0, none⟩)], rfl, fn51, fun w q y0 hx hq hxx => prod1_c w q y0 a b _ _ _ _ _ _ _ (hP1.ext hx) (hB607.ext hx) (hP2.ext hx) (hT1.ext hx) (hT2.ext hx) hTab hTab' hv hv' hq hxx⟩) ?_
      rintro _ w657 ⟨⟨nv659, xv660, rfl, hn661, hx662⟩, e658⟩
      have hs673 := Below.size E
      have hs674 := Below.size e658
      replace E := E.trans e658
      replace hB4 := hB4.ext e658
      replace hB11 := hB11.ext e658
      replace hB19 := hB19.ext e658
      replace hB607 := hB607.ext e658
      replace hB625 := hB625.ext e658
      by_cases hl663 : ((((ord (fP a b) 0 (letters (orI a.al b.al))).length : Nat) : Int) ≤ 12)
      · rw [if_pos hl663] at hn661 hx662
        refine Sq.move .plain rfl rfl ?_
        refine Sq.extract .plain rfl rfl rfl ?_
        refine Sq.extract .plain rfl rfl rfl ?_
        refine Sq.extract .plain rfl rfl rfl ?_
        refine Sq.isT (hl663) ?_
        refine Sq.assign .plain rfl rfl ?_
        refine Sq.assign .plain rfl rfl ?_
        refine Sq.assign .plain rfl rfl ?_
        refine Sq.nil ?_
        refine Eq.next ?_
        refine Cq.seq ?_
        refine Cq.seq ?_
        refine Cq.region ?_
        refine Sq.move .plain rfl rfl ?_
        refine Sq.notT .plain rfl rfl ?_
        refine Sq.nil ?_
        refine Eq.next ?_
        refine Cq.els rfl ?_
        refine Cq.skip ?_
        refine Eq.next ?_
        refine Cq.seq ?_
        refine Cq.region ?_
        refine Sq.move .plain rfl rfl ?_
        refine Sq.fieldAddr fld26_1 .plain rfl rfl ?_
        refine Sq.store one23 .plain rfl rfl (Rows.one (OwnRows.rows hx662)) hB625 (by simp) (fun w675 g676 hB677 => ?_)
        have hs678 := World.grownBy.size g676
        replace E := E.grown g676 (fun k hk => by injection hk with hk; subst hk; omega)
        replace hB4 := hB4.grown g676 (by intro h; injection h with h; omega)
        replace hB11 := hB11.grown g676 (by intro h; injection h with h; omega)
        replace hB19 := hB19.grown g676 (by intro h; injection h with h; omega)
        replace hB607 := hB607.grown g676 (by intro h; injection h with h; omega)
        replace hn661 := hn661.stored g676 hB625 (by decide)
        replace hx662 := hx662.stored g676 hB625 (by decide) (by decide)
        replace hB625 := hB677
        refine Sq.nil ?_
        refine Eq.next ?_
        refine Cq.seq ?_
        refine Cq.seq ?_
        refine Cq.region ?_
        refine Sq.move .plain rfl rfl ?_
        refine Sq.lenInts (Own.row hn661) .plain rfl und56 rfl ?_
        refine Sq.move .plain rfl rfl ?_
        refine Sq.nil ?_
        refine Eq.next ?_
        refine Cq.block ?_
        have hz := zero_in hv'
        have hz2 := (validA_spec.1 hv').2
        have hz1 := (validA_spec.1 hv).2
        have h144 := le144 hv hv'
        have hall := ord_all (f := fP a b) (s := 0) (L := letters (orI a.al b.al)) (P := InP a b) (zero_inP hv hv') (fun q hq x hx => fP_in hv hv' hq ⟨(mem_letters hx).1, (mem_letters hx).2.1⟩)
        refine Cq.loop (fun nn w ls => ∃ (i : Int), ∃ (acv : Value), ∃ (ys : List Bool), ls = [(2, Value.int .i64 k), (3, Value.pointer (some ⟨b1, 0, none⟩)), (4, Value.pointer (some ⟨b8, 0, none⟩)), (6, Value.pointer (some ⟨b16, 0, none⟩)), (10, Value.pointer (some ⟨b604, 0, none⟩)), (11, Value.pointer (some ⟨b622, 0, none⟩)), (62, nv659), (63, Value.int .i64 ((List.length (ord (fP a b) 0 (letters (orI a.al b.al))) : Int))), (64, Value.int .i64 i)] ∧ (0 ≤ i ∧ i ≤ (ord (fP a b) 0 (letters (orI a.al b.al))).length) ∧ Blk w b622 26 [Value.int .i64 (orI a.al b.al), xv660, acv] ∧ Own w w0.heap.size 4 acv (ys.map Value.bool) ∧ ys = ((ord (fP a b) 0 (letters (orI a.al b.al))).take i.toNat).map (accP a b k) ∧ Ext w0 w ∧ Blk w b1 26 [Value.int .i64 a.al, nx, ac] ∧ Blk w b8 26 [Value.int .i64 b.al, nx', ac'] ∧ Blk w b16 26 [Value.int .i64 0, Value.slice none 0 0, Value.slice none 0 0] ∧ Blk w b604 3 [Value.int .i64 (List.length b.next : Int)] ∧ OwnRows w w642.heap.size w657.heap.size 56 3 xv660 ((ord (fP a b) 0 (letters (orI a.al b.al))).map (rowAt (fP a b) (letters (orI a.al b.al)) (ord (fP a b) 0 (letters (orI a.al b.al))))) ∧ Own w w642.heap.size 3 nv659 ((ord (fP a b) 0 (letters (orI a.al b.al))).map (Value.int .i64)) ∧ nn = (((ord (fP a b) 0 (letters (orI a.al b.al))).length : Int) - i).toNat) _ _ ⟨0, _, [], rfl, by omega, hB625, Own.nil _ _ _, rfl, E, hB4, hB11, hB19, hB607, hx662, hn661, rfl⟩ (.cons rfl (.cons rfl (.cons rfl (.cons rfl (.cons rfl (.cons rfl (.cons rfl (.cons rfl (.cons rfl (.nil)))))))))) ?_
        rintro nn wl1 ls ⟨i, acv, ys, rfl, hi, hBr, hoa, hys, E, hB4, hB11, hB19, hB607, hx662, hn661, rfl⟩
        have hs679 := Below.size E
        have hat : i < (ord (fP a b) 0 (letters (orI a.al b.al))).length → ((0 ≤ ((ord (fP a b) 0 (letters (orI a.al b.al))).getD i.toNat 0 / (List.length b.next : Int)) ∧ ((ord (fP a b) 0 (letters (orI a.al b.al))).getD i.toNat 0 / (List.length b.next : Int)) < (a.next.length : Int)) ∧ 0 ≤ ((ord (fP a b) 0 (letters (orI a.al b.al))).getD i.toNat 0 % (List.length b.next : Int)) ∧ ((ord (fP a b) 0 (letters (orI a.al b.al))).getD i.toNat 0 % (List.length b.next : Int)) < (List.length b.next : Int)) ∧ 0 ≤ (ord (fP a b) 0 (letters (orI a.al b.al))).getD i.toNat 0 ∧ (ord (fP a b) 0 (letters (orI a.al b.al))).getD i.toNat 0 ≤ 144 := fun h => by
          have h7 := hall _ (getD_mem (d := 0) (k := i.toNat) (by omega))
          exact ⟨inP_div hv' h7, h7.1, by have := h7.2; omega⟩
        have hyl : ys.length ≤ 20 := by rw [hys, List.length_map, List.length_take]; omega
        refine Cq.seq ?_
        refine Cq.region ?_
        refine Sq.lss .plain rfl rfl rfl ?_
        refine Sq.part (fun c680 => ?_) (fun c680 => ?_)
        · refine Sq.nil ?_
          refine Eq.next ?_
          refine Cq.seq ?_
          refine Cq.thn rfl ?_
          refine Cq.skip ?_
          refine Eq.next ?_
          refine Cq.seq ?_
          refine Cq.block ?_
          refine Cq.seq ?_
          refine Cq.region ?_
          refine Sq.idxInts sl56 one3 (Own.row hn661) .plain rfl rfl rfl .plain rfl rfl (by omega) (by omega) ?_
          refine Sq.assign .plain rfl rfl ?_
          refine Sq.nil ?_
          refine Eq.next ?_
          refine Cq.seq ?_
          refine Cq.drawS 15 (fun w' => Blk w' b1 26 [Value.int .i64 a.al, nx, ac] ∧ Blk w' b8 26 [Value.int .i64 b.al, nx', ac'] ∧ Blk w' b604 3 [Value.int .i64 (List.length b.next : Int)] ∧ Ext w0 w') mixed (⟨hB4, hB11, hB607, E⟩) (fun w681 e682 hS => ?_)
          clear hS
          have hs683 := Below.size e682
          replace E := E.trans e682
          replace hB4 := hB4.ext e682
          replace hB11 := hB11.ext e682
          replace hB19 := hB19.ext e682
          replace hB607 := hB607.ext e682
          replace hx662 := hx662.ext e682
          replace hn661 := hn661.ext e682
          replace hBr := hBr.ext e682
          replace hoa := hoa.ext e682
          refine Gq.st 0 rfl (by kernel_rfl) rfl .plain rfl (fun _ _ _ h => h) ⟨hB4, hB11, hB607, E⟩ (fun w' x => Still.fieldAddr fld26_2 rfl) ?_
          refine Gq.st 1 rfl (by kernel_rfl) rfl .plain rfl (fun _ _ _ h => h) ⟨hB4, hB11, hB607, E⟩ (fun w' x => Still.loadB one24 rfl x.1 rfl) ?_
          refine Gq.st 2 rfl (by kernel_rfl) rfl .plain rfl (fun _ _ _ h => h) ⟨hB4, hB11, hB607, E⟩ (fun w' x => Still.move rfl) ?_
          refine Gq.st 3 rfl (by kernel_rfl) rfl .plain rfl (fun _ _ _ h => h) ⟨hB4, hB11, hB607, E⟩ (fun w' x => Still.loadB one3 rfl x.2.2.1 rfl) ?_
          refine Gq.st 4 rfl (by kernel_rfl) rfl .plain rfl (fun _ _ _ h => h) ⟨hB4, hB11, hB607, E⟩ (fun w' x => Still.quo rfl rfl (by have := hat (by omega); omega)) ?_
          obtain ⟨p684, hp685_w681⟩ := Bools.at hac (i := ((ord (fP a b) 0 (letters (orI a.al b.al))).getD i.toNat 0) / (List.length b.next : Int)) (by have := hat (by omega); omega) (by have := hat (by omega); omega)
          refine Gq.st 5 rfl (by kernel_rfl) rfl .plain rfl (fun _ _ _ h => h) ⟨hB4, hB11, hB607, E⟩ (fun w' x => Still.at' sl24 hp685_w681 rfl rfl) ?_
          refine Gq.st 6 rfl (by kernel_rfl) rfl .plain rfl (fun _ _ _ h => h) ⟨hB4, hB11, hB607, E⟩ (fun w' x => Still.loadA one4 rfl (hp685_w681.ext (x.2.2.2)).1) ?_
          refine Gq.st 7 rfl (by kernel_rfl) rfl .plain rfl (fun _ _ _ h => h) ⟨hB4, hB11, hB607, E⟩ (fun w' x => Still.fieldAddr fld26_2 rfl) ?_
          refine Gq.st 8 rfl (by kernel_rfl) rfl .plain rfl (fun _ _ _ h => h) ⟨hB4, hB11, hB607, E⟩ (fun w' x => Still.loadB one24 rfl x.2.1 rfl) ?_
          refine Gq.st 9 rfl (by kernel_rfl) rfl .plain rfl (fun _ _ _ h => h) ⟨hB4, hB11, hB607, E⟩ (fun w' x => Still.move rfl) ?_
          refine Gq.st 10 rfl (by kernel_rfl) rfl .plain rfl (fun _ _ _ h => h) ⟨hB4, hB11, hB607, E⟩ (fun w' x => Still.loadB one3 rfl x.2.2.1 rfl) ?_
          refine Gq.st 11 rfl (by kernel_rfl) rfl .plain rfl (fun _ _ _ h => h) ⟨hB4, hB11, hB607, E⟩ (fun w' x => Still.rem rfl rfl (by have := hat (by omega); omega)) ?_
          obtain ⟨p686, hp687_w681⟩ := Bools.at hac' (i := ((ord (fP a b) 0 (letters (orI a.al b.al))).getD i.toNat 0) % (List.length b.next : Int)) (by have := hat (by omega); omega) (by have := hat (by omega); omega)
          refine Gq.st 12 rfl (by kernel_rfl) rfl .plain rfl (fun _ _ _ h => h) ⟨hB4, hB11, hB607, E⟩ (fun w' x => Still.at' sl24 hp687_w681 rfl rfl) ?_
          refine Gq.st 13 rfl (by kernel_rfl) rfl .plain rfl (fun _ _ _ h => h) ⟨hB4, hB11, hB607, E⟩ (fun w' x => Still.loadA one4 rfl (hp687_w681.ext (x.2.2.2)).1) ?_
          refine Gq.st 14 rfl (by kernel_rfl) rfl .plain rfl (fun _ _ _ h => h) ⟨hB4, hB11, hB607, E⟩ (fun w' x => Still.assign rfl) ?_
          refine Gq.one 15 rfl (by kernel_rfl) ?_
          refine Sq.assign .plain rfl rfl ?_
          refine Sq.nil ?_
          refine Eq.goes (fun h => absurd h (by decide)) ?_
          refine Gq.done (by kernel_rfl) ?_
          refine Eq.next ?_
          refine Cq.region ?_
          refine Sq.fieldAddr fld26_2 .plain rfl rfl ?_
          refine Sq.loadB one24 .plain rfl rfl hBr rfl ?_
          refine Sq.move .plain rfl rfl ?_
          refine Sq.eql .plain rfl rfl rfl ?_
          refine Sq.part (fun hk0 => ?_) (fun hk0 => ?_)
          · refine Sq.move .plain rfl rfl ?_
            refine Sq.move (.met rfl rfl rfl) rfl rfl ?_
            refine Sq.partB (fun hx1 => ?_) (fun hx1 => ?_)
            · refine Sq.pickT .plain rfl rfl rfl ?_
              refine Sq.move .plain rfl rfl ?_
              refine Sq.move (.met rfl rfl rfl) rfl rfl ?_
              refine Sq.partB (fun hy1 => ?_) (fun hy1 => ?_)
              · refine Sq.pickT .plain rfl rfl rfl ?_
                refine Sq.move .plain rfl rfl ?_
                refine Sq.off rfl rfl rfl rfl rfl rfl ?_
                refine Sq.off rfl rfl rfl rfl rfl rfl ?_
                refine Sq.off rfl rfl rfl rfl rfl rfl ?_
                refine Sq.offU rfl rfl rfl rfl rfl rfl ?_
                refine Sq.offU rfl rfl rfl rfl rfl rfl ?_
                refine Sq.offU rfl rfl rfl rfl rfl rfl ?_
                refine Sq.offU rfl rfl rfl rfl rfl rfl ?_
                refine Sq.off rfl rfl rfl rfl rfl rfl ?_
                refine Sq.pickT .plain rfl rfl rfl ?_
                refine Sq.move .plain rfl rfl ?_
                refine Sq.off rfl rfl rfl rfl rfl rfl ?_
                refine Sq.off rfl rfl rfl rfl rfl rfl ?_
                refine Sq.off rfl rfl rfl rfl rfl rfl ?_
                refine Sq.offU rfl rfl rfl rfl rfl rfl ?_
                refine Sq.off rfl rfl rfl rfl rfl rfl ?_
                refine Sq.off rfl rfl rfl rfl rfl rfl ?_
                refine Sq.offU rfl rfl rfl rfl rfl rfl ?_
                refine Sq.offU rfl rfl rfl rfl rfl rfl ?_
                refine Sq.off rfl rfl rfl rfl rfl rfl ?_
                refine Sq.pickT .plain rfl rfl rfl ?_
                refine Sq.app1 sl24 hoa (by omega) (by first | omega | (simp; omega)) .plain rfl rfl rfl rfl rfl rfl rfl (fun v688 w689 ho691 g690 _ => ?_)
                have hs692 := g690.size
                replace E := E.owned hoa g690 (by omega)
                replace hB4 := hB4.owned hoa g690 (by decide)
                replace hB11 := hB11.owned hoa g690 (by decide)
                replace hB19 := hB19.owned hoa g690 (by decide)
                replace hB607 := hB607.owned hoa g690 (by decide)
                replace hx662 := hx662.owned hoa g690 (by decide) (by decide)
                replace hn661 := hn661.owned hoa g690 (by decide)
                replace hBr := hBr.owned hoa g690 (by decide)
                refine Sq.fieldAddr fld26_2 .plain rfl rfl ?_
                refine Sq.store one24 .plain rfl rfl (Row.one (Own.row ho691)) hBr (by simp) (fun w693 g694 hB695 => ?_)
                have hs696 := World.grownBy.size g694
                replace E := E.grown g694 (fun k hk => by injection hk with hk; subst hk; omega)
                replace hB4 := hB4.grown g694 (by intro h; injection h with h; omega)
                replace hB11 := hB11.grown g694 (by intro h; injection h with h; omega)
                replace hB19 := hB19.grown g694 (by intro h; injection h with h; omega)
                replace hB607 := hB607.grown g694 (by intro h; injection h with h; omega)
                replace hx662 := hx662.stored g694 hBr (by decide) (by decide)
                replace hn661 := hn661.stored g694 hBr (by decide)
                replace ho691 := ho691.stored g694 hBr (by decide)
                replace hBr := hB695
                refine Sq.nil ?_
                refine Eq.end ?_
                refine Eq.next ?_
                refine Cq.region ?_
                refine Sq.add .plain rfl rfl rfl (by omega) ?_
                refine Sq.move .plain rfl rfl ?_
                refine Sq.nil ?_
                have e1 := toNat_succ hi.1
                refine Eq.round _ _ ⟨i + 1, _, _, rfl, by omega, hBr, Own.snocB ho691, by rw [e1, take_snoc 0 (by omega), List.map_append, ← hys]; congr 1; simp only [List.map_cons, List.map_nil, accP, kindB, accA, hk0, hx1, hy1]; first | done | rfl | simp, E, hB4, hB11, hB19, hB607, hx662, hn661, rfl⟩ (by omega) (.cons rfl (.cons rfl (.cons rfl (.cons rfl (.cons rfl (.cons rfl (.cons rfl (.cons rfl (.cons rfl (.nil))))))))))
              refine Sq.pickT .plain rfl rfl rfl ?_
              refine Sq.move .plain rfl rfl ?_
              refine Sq.move (.met rfl rfl rfl) rfl rfl ?_
              refine Sq.eql (.met rfl rfl rfl) rfl rfl rfl ?_
              refine Sq.isF (by omega) ?_
              refine Sq.move (.met rfl rfl rfl) rfl rfl ?_
              refine Sq.off rfl rfl rfl rfl rfl rfl ?_
              refine Sq.off rfl rfl rfl rfl rfl rfl ?_
              refine Sq.offU rfl rfl rfl rfl rfl rfl ?_
              refine Sq.off rfl rfl rfl rfl rfl rfl ?_
              refine Sq.pickF (.met rfl rfl rfl) rfl rfl rfl ?_
              refine Sq.pickF .plain rfl rfl rfl ?_
              refine Sq.move .plain rfl rfl ?_
              refine Sq.move (.met rfl rfl rfl) rfl rfl ?_
              refine Sq.eql (.met rfl rfl rfl) rfl rfl rfl ?_
              refine Sq.isF (by omega) ?_
              refine Sq.move (.met rfl rfl rfl) rfl rfl ?_
              refine Sq.off rfl rfl rfl rfl rfl rfl ?_
              refine Sq.pickF (.met rfl rfl rfl) rfl rfl rfl ?_
              refine Sq.move (.met rfl rfl rfl) rfl rfl ?_
              refine Sq.off rfl rfl rfl rfl rfl rfl ?_
              refine Sq.off rfl rfl rfl rfl rfl rfl ?_
              refine Sq.pickF (.met rfl rfl rfl) rfl rfl rfl ?_
              refine Sq.pickF .plain rfl rfl rfl ?_
              refine Sq.app1 sl24 hoa (by omega) (by first | omega | (simp; omega)) .plain rfl rfl rfl rfl rfl rfl rfl (fun v697 w698 ho700 g699 _ => ?_)
              have hs701 := g699.size
              replace E := E.owned hoa g699 (by omega)
              replace hB4 := hB4.owned hoa g699 (by decide)
              replace hB11 := hB11.owned hoa g699 (by decide)
              replace hB19 := hB19.owned hoa g699 (by decide)
              replace hB607 := hB607.owned hoa g699 (by decide)
              replace hx662 := hx662.owned hoa g699 (by decide) (by decide)
              replace hn661 := hn661.owned hoa g699 (by decide)
              replace hBr := hBr.owned hoa g699 (by decide)
              refine Sq.fieldAddr fld26_2 .plain rfl rfl ?_
              refine Sq.store one24 .plain rfl rfl (Row.one (Own.row ho700)) hBr (by simp) (fun w702 g703 hB704 => ?_)
              have hs705 := World.grownBy.size g703
              replace E := E.grown g703 (fun k hk => by injection hk with hk; subst hk; omega)
              replace hB4 := hB4.grown g703 (by intro h; injection h with h; omega)
              replace hB11 := hB11.grown g703 (by intro h; injection h with h; omega)
              replace hB19 := hB19.grown g703 (by intro h; injection h with h; omega)
              replace hB607 := hB607.grown g703 (by intro h; injection h with h; omega)
              replace hx662 := hx662.stored g703 hBr (by decide) (by decide)
              replace hn661 := hn661.stored g703 hBr (by decide)
              replace ho700 := ho700.stored g703 hBr (by decide)
              replace hBr := hB704
              refine Sq.nil ?_
              refine Eq.end ?_
              refine Eq.next ?_
              refine Cq.region ?_
              refine Sq.add .plain rfl rfl rfl (by omega) ?_
              refine Sq.move .plain rfl rfl ?_
              refine Sq.nil ?_
              have e1 := toNat_succ hi.1
              refine Eq.round _ _ ⟨i + 1, _, _, rfl, by omega, hBr, Own.snocB ho700, by rw [e1, take_snoc 0 (by omega), List.map_append, ← hys]; congr 1; simp only [List.map_cons, List.map_nil, accP, kindB, accA, hk0, hx1, hy1]; first | done | rfl | simp, E, hB4, hB11, hB19, hB607, hx662, hn661, rfl⟩ (by omega) (.cons rfl (.cons rfl (.cons rfl (.cons rfl (.cons rfl (.cons rfl (.cons rfl (.cons rfl (.cons rfl (.nil))))))))))
            refine Sq.pickT .plain rfl rfl rfl ?_
            refine Sq.move .plain rfl rfl ?_
            refine Sq.off rfl rfl rfl rfl rfl rfl ?_
            refine Sq.pickF .plain rfl rfl rfl ?_
            refine Sq.move .plain rfl rfl ?_
            refine Sq.move (.met rfl rfl rfl) rfl rfl ?_
            refine Sq.eql (.met rfl rfl rfl) rfl rfl rfl ?_
            refine Sq.isF (by omega) ?_
            refine Sq.move (.met rfl rfl rfl) rfl rfl ?_
            refine Sq.off rfl rfl rfl rfl rfl rfl ?_
            refine Sq.off rfl rfl rfl rfl rfl rfl ?_
            refine Sq.offU rfl rfl rfl rfl rfl rfl ?_
            refine Sq.off rfl rfl rfl rfl rfl rfl ?_
            refine Sq.pickF (.met rfl rfl rfl) rfl rfl rfl ?_
            refine Sq.pickF .plain rfl rfl rfl ?_
            refine Sq.move .plain rfl rfl ?_
            refine Sq.move (.met rfl rfl rfl) rfl rfl ?_
            refine Sq.eql (.met rfl rfl rfl) rfl rfl rfl ?_
            refine Sq.isF (by omega) ?_
            refine Sq.move (.met rfl rfl rfl) rfl rfl ?_
            refine Sq.off rfl rfl rfl rfl rfl rfl ?_
            refine Sq.pickF (.met rfl rfl rfl) rfl rfl rfl ?_
            refine Sq.move (.met rfl rfl rfl) rfl rfl ?_
            refine Sq.off rfl rfl rfl rfl rfl rfl ?_
            refine Sq.off rfl rfl rfl rfl rfl rfl ?_
            refine Sq.pickF (.met rfl rfl rfl) rfl rfl rfl ?_
            refine Sq.pickF .plain rfl rfl rfl ?_
            refine Sq.app1 sl24 hoa (by omega) (by first | omega | (simp; omega)) .plain rfl rfl rfl rfl rfl rfl rfl (fun v706 w707 ho709 g708 _ => ?_)
            have hs710 := g708.size
            replace E := E.owned hoa g708 (by omega)
            replace hB4 := hB4.owned hoa g708 (by decide)
            replace hB11 := hB11.owned hoa g708 (by decide)
            replace hB19 := hB19.owned hoa g708 (by decide)
            replace hB607 := hB607.owned hoa g708 (by decide)
            replace hx662 := hx662.owned hoa g708 (by decide) (by decide)
            replace hn661 := hn661.owned hoa g708 (by decide)
            replace hBr := hBr.owned hoa g708 (by decide)
            refine Sq.fieldAddr fld26_2 .plain rfl rfl ?_
            refine Sq.store one24 .plain rfl rfl (Row.one (Own.row ho709)) hBr (by simp) (fun w711 g712 hB713 => ?_)
            have hs714 := World.grownBy.size g712
            replace E := E.grown g712 (fun k hk => by injection hk with hk; subst hk; omega)
            replace hB4 := hB4.grown g712 (by intro h; injection h with h; omega)
            replace hB11 := hB11.grown g712 (by intro h; injection h with h; omega)
            replace hB19 := hB19.grown g712 (by intro h; injection h with h; omega)
            replace hB607 := hB607.grown g712 (by intro h; injection h with h; omega)
            replace hx662 := hx662.stored g712 hBr (by decide) (by decide)
            replace hn661 := hn661.stored g712 hBr (by decide)
            replace ho709 := ho709.stored g712 hBr (by decide)
            replace hBr := hB713
            refine Sq.nil ?_
            refine Eq.end ?_
            refine Eq.next ?_
            refine Cq.region ?_
            refine Sq.add .plain rfl rfl rfl (by omega) ?_
            refine Sq.move .plain rfl rfl ?_
            refine Sq.nil ?_
            have e1 := toNat_succ hi.1
            refine Eq.round _ _ ⟨i + 1, _, _, rfl, by omega, hBr, Own.snocB ho709, by rw [e1, take_snoc 0 (by omega), List.map_append, ← hys]; congr 1; simp only [List.map_cons, List.map_nil, accP, kindB, accA, hk0, hx1]; first | done | rfl | simp, E, hB4, hB11, hB19, hB607, hx662, hn661, rfl⟩ (by omega) (.cons rfl (.cons rfl (.cons rfl (.cons rfl (.cons rfl (.cons rfl (.cons rfl (.cons rfl (.cons rfl (.nil))))))))))
          refine Sq.move .plain rfl rfl ?_
          refine Sq.off rfl rfl rfl rfl rfl rfl ?_
          refine Sq.pickF .plain rfl rfl rfl ?_
          refine Sq.move .plain rfl rfl ?_
          refine Sq.off rfl rfl rfl rfl rfl rfl ?_
          refine Sq.pickF .plain rfl rfl rfl ?_
          refine Sq.move .plain rfl rfl ?_
          refine Sq.move (.met rfl rfl rfl) rfl rfl ?_
          refine Sq.eql (.met rfl rfl rfl) rfl rfl rfl ?_
          refine Sq.part (fun hk1 => ?_) (fun hk1 => ?_)
          · refine Sq.move (.met rfl rfl rfl) rfl rfl ?_
            refine Sq.move (.met rfl rfl rfl) rfl rfl ?_
            refine Sq.partB (fun hx2 => ?_) (fun hx2 => ?_)
            · refine Sq.move (.met rfl rfl rfl) rfl rfl ?_
              refine Sq.off rfl rfl rfl rfl rfl rfl ?_
              refine Sq.pickT (.met rfl rfl rfl) rfl rfl rfl ?_
              refine Sq.pickT (.met rfl rfl rfl) rfl rfl rfl ?_
              refine Sq.pickF .plain rfl rfl rfl ?_
              refine Sq.move .plain rfl rfl ?_
              refine Sq.off rfl rfl rfl rfl rfl rfl ?_
              refine Sq.off rfl rfl rfl rfl rfl rfl ?_
              refine Sq.off rfl rfl rfl rfl rfl rfl ?_
              refine Sq.offU rfl rfl rfl rfl rfl rfl ?_
              refine Sq.off rfl rfl rfl rfl rfl rfl ?_
              refine Sq.off rfl rfl rfl rfl rfl rfl ?_
              refine Sq.offU rfl rfl rfl rfl rfl rfl ?_
              refine Sq.offU rfl rfl rfl rfl rfl rfl ?_
              refine Sq.off rfl rfl rfl rfl rfl rfl ?_
              refine Sq.pickT .plain rfl rfl rfl ?_
              refine Sq.app1 sl24 hoa (by omega) (by first | omega | (simp; omega)) .plain rfl rfl rfl rfl rfl rfl rfl (fun v715 w716 ho718 g717 _ => ?_)
              have hs719 := g717.size
              replace E := E.owned hoa g717 (by omega)
              replace hB4 := hB4.owned hoa g717 (by decide)
              replace hB11 := hB11.owned hoa g717 (by decide)
              replace hB19 := hB19.owned hoa g717 (by decide)
              replace hB607 := hB607.owned hoa g717 (by decide)
              replace hx662 := hx662.owned hoa g717 (by decide) (by decide)
              replace hn661 := hn661.owned hoa g717 (by decide)
              replace hBr := hBr.owned hoa g717 (by decide)
              refine Sq.fieldAddr fld26_2 .plain rfl rfl ?_
              refine Sq.store one24 .plain rfl rfl (Row.one (Own.row ho718)) hBr (by simp) (fun w720 g721 hB722 => ?_)
              have hs723 := World.grownBy.size g721
              replace E := E.grown g721 (fun k hk => by injection hk with hk; subst hk; omega)
              replace hB4 := hB4.grown g721 (by intro h; injection h with h; omega)
              replace hB11 := hB11.grown g721 (by intro h; injection h with h; omega)
              replace hB19 := hB19.grown g721 (by intro h; injection h with h; omega)
              replace hB607 := hB607.grown g721 (by intro h; injection h with h; omega)
              replace hx662 := hx662.stored g721 hBr (by decide) (by decide)
              replace hn661 := hn661.stored g721 hBr (by decide)
              replace ho718 := ho718.stored g721 hBr (by decide)
              replace hBr := hB722
              refine Sq.nil ?_
              refine Eq.end ?_
              refine Eq.next ?_
              refine Cq.region ?_
              refine Sq.add .plain rfl rfl rfl (by omega) ?_
              refine Sq.move .plain rfl rfl ?_
              refine Sq.nil ?_
              have e1 := toNat_succ hi.1
              refine Eq.round _ _ ⟨i + 1, _, _, rfl, by omega, hBr, Own.snocB ho718, by rw [e1, take_snoc 0 (by omega), List.map_append, ← hys]; congr 1; simp only [List.map_cons, List.map_nil, accP, kindB, accA, hk0, hk1, hx2]; first | done | rfl | simp, E, hB4, hB11, hB19, hB607, hx662, hn661, rfl⟩ (by omega) (.cons rfl (.cons rfl (.cons rfl (.cons rfl (.cons rfl (.cons rfl (.cons rfl (.cons rfl (.cons rfl (.nil))))))))))
            refine Sq.move (.met rfl rfl rfl) rfl rfl ?_
            refine Sq.move (.met rfl rfl rfl) rfl rfl ?_
            refine Sq.partB (fun hy2 => ?_) (fun hy2 => ?_)
            · refine Sq.pickF (.met rfl rfl rfl) rfl rfl rfl ?_
              refine Sq.pickT (.met rfl rfl rfl) rfl rfl rfl ?_
              refine Sq.pickF .plain rfl rfl rfl ?_
              refine Sq.move .plain rfl rfl ?_
              refine Sq.off rfl rfl rfl rfl rfl rfl ?_
              refine Sq.off rfl rfl rfl rfl rfl rfl ?_
              refine Sq.off rfl rfl rfl rfl rfl rfl ?_
              refine Sq.offU rfl rfl rfl rfl rfl rfl ?_
              refine Sq.off rfl rfl rfl rfl rfl rfl ?_
              refine Sq.off rfl rfl rfl rfl rfl rfl ?_
              refine Sq.offU rfl rfl rfl rfl rfl rfl ?_
              refine Sq.offU rfl rfl rfl rfl rfl rfl ?_
              refine Sq.off rfl rfl rfl rfl rfl rfl ?_
              refine Sq.pickT .plain rfl rfl rfl ?_
              refine Sq.app1 sl24 hoa (by omega) (by first | omega | (simp; omega)) .plain rfl rfl rfl rfl rfl rfl rfl (fun v724 w725 ho727 g726 _ => ?_)
              have hs728 := g726.size
              replace E := E.owned hoa g726 (by omega)
              replace hB4 := hB4.owned hoa g726 (by decide)
              replace hB11 := hB11.owned hoa g726 (by decide)
              replace hB19 := hB19.owned hoa g726 (by decide)
              replace hB607 := hB607.owned hoa g726 (by decide)
              replace hx662 := hx662.owned hoa g726 (by decide) (by decide)
              replace hn661 := hn661.owned hoa g726 (by decide)
              replace hBr := hBr.owned hoa g726 (by decide)
              refine Sq.fieldAddr fld26_2 .plain rfl rfl ?_
              refine Sq.store one24 .plain rfl rfl (Row.one (Own.row ho727)) hBr (by simp) (fun w729 g730 hB731 => ?_)
              have hs732 := World.grownBy.size g730
              replace E := E.grown g730 (fun k hk => by injection hk with hk; subst hk; omega)
              replace hB4 := hB4.grown g730 (by intro h; injection h with h; omega)
              replace hB11 := hB11.grown g730 (by intro h; injection h with h; omega)
              replace hB19 := hB19.grown g730 (by intro h; injection h with h; omega)
              replace hB607 := hB607.grown g730 (by intro h; injection h with h; omega)
              replace hx662 := hx662.stored g730 hBr (by decide) (by decide)
              replace hn661 := hn661.stored g730 hBr (by decide)
              replace ho727 := ho727.stored g730 hBr (by decide)
              replace hBr := hB731
              refine Sq.nil ?_
              refine Eq.end ?_
              refine Eq.next ?_
              refine Cq.region ?_
              refine Sq.add .plain rfl rfl rfl (by omega) ?_
              refine Sq.move .plain rfl rfl ?_
              refine Sq.nil ?_
              have e1 := toNat_succ hi.1
              refine Eq.round _ _ ⟨i + 1, _, _, rfl, by omega, hBr, Own.snocB ho727, by rw [e1, take_snoc 0 (by omega), List.map_append, ← hys]; congr 1; simp only [List.map_cons, List.map_nil, accP, kindB, accA, hk0, hk1, hx2, hy2]; first | done | rfl | simp, E, hB4, hB11, hB19, hB607, hx662, hn661, rfl⟩ (by omega) (.cons rfl (.cons rfl (.cons rfl (.cons rfl (.cons rfl (.cons rfl (.cons rfl (.cons rfl (.cons rfl (.nil))))))))))
            refine Sq.pickF (.met rfl rfl rfl) rfl rfl rfl ?_
            refine Sq.pickT (.met rfl rfl rfl) rfl rfl rfl ?_
            refine Sq.pickF .plain rfl rfl rfl ?_
            refine Sq.move .plain rfl rfl ?_
            refine Sq.move (.met rfl rfl rfl) rfl rfl ?_
            refine Sq.eql (.met rfl rfl rfl) rfl rfl rfl ?_
            refine Sq.isF (by omega) ?_
            refine Sq.move (.met rfl rfl rfl) rfl rfl ?_
            refine Sq.off rfl rfl rfl rfl rfl rfl ?_
            refine Sq.pickF (.met rfl rfl rfl) rfl rfl rfl ?_
            refine Sq.move (.met rfl rfl rfl) rfl rfl ?_
            refine Sq.off rfl rfl rfl rfl rfl rfl ?_
            refine Sq.off rfl rfl rfl rfl rfl rfl ?_
            refine Sq.pickF (.met rfl rfl rfl) rfl rfl rfl ?_
            refine Sq.pickF .plain rfl rfl rfl ?_
            refine Sq.app1 sl24 hoa (by omega) (by first | omega | (simp; omega)) .plain rfl rfl rfl rfl rfl rfl rfl (fun v733 w734 ho736 g735 _ => ?_)
            have hs737 := g735.size
            replace E := E.owned hoa g735 (by omega)
            replace hB4 := hB4.owned hoa g735 (by decide)
            replace hB11 := hB11.owned hoa g735 (by decide)
            replace hB19 := hB19.owned hoa g735 (by decide)
            replace hB607 := hB607.owned hoa g735 (by decide)
            replace hx662 := hx662.owned hoa g735 (by decide) (by decide)
            replace hn661 := hn661.owned hoa g735 (by decide)
            replace hBr := hBr.owned hoa g735 (by decide)
            refine Sq.fieldAddr fld26_2 .plain rfl rfl ?_
            refine Sq.store one24 .plain rfl rfl (Row.one (Own.row ho736)) hBr (by simp) (fun w738 g739 hB740 => ?_)
            have hs741 := World.grownBy.size g739
            replace E := E.grown g739 (fun k hk => by injection hk with hk; subst hk; omega)
            replace hB4 := hB4.grown g739 (by intro h; injection h with h; omega)
            replace hB11 := hB11.grown g739 (by intro h; injection h with h; omega)
            replace hB19 := hB19.grown g739 (by intro h; injection h with h; omega)
            replace hB607 := hB607.grown g739 (by intro h; injection h with h; omega)
            replace hx662 := hx662.stored g739 hBr (by decide) (by decide)
            replace hn661 := hn661.stored g739 hBr (by decide)
            replace ho736 := ho736.stored g739 hBr (by decide)
            replace hBr := hB740
            refine Sq.nil ?_
            refine Eq.end ?_
            refine Eq.next ?_
            refine Cq.region ?_
            refine Sq.add .plain rfl rfl rfl (by omega) ?_
            refine Sq.move .plain rfl rfl ?_
            refine Sq.nil ?_
            have e1 := toNat_succ hi.1
            refine Eq.round _ _ ⟨i + 1, _, _, rfl, by omega, hBr, Own.snocB ho736, by rw [e1, take_snoc 0 (by omega), List.map_append, ← hys]; congr 1; simp only [List.map_cons, List.map_nil, accP, kindB, accA, hk0, hk1, hx2, hy2]; first | done | rfl | simp, E, hB4, hB11, hB19, hB607, hx662, hn661, rfl⟩ (by omega) (.cons rfl (.cons rfl (.cons rfl (.cons rfl (.cons rfl (.cons rfl (.cons rfl (.cons rfl (.cons rfl (.nil))))))))))
          refine Sq.move (.met rfl rfl rfl) rfl rfl ?_
          refine Sq.off rfl rfl rfl rfl rfl rfl ?_
          refine Sq.off rfl rfl rfl rfl rfl rfl ?_
          refine Sq.offU rfl rfl rfl rfl rfl rfl ?_
          refine Sq.off rfl rfl rfl rfl rfl rfl ?_
          refine Sq.pickF (.met rfl rfl rfl) rfl rfl rfl ?_
          refine Sq.pickF .plain rfl rfl rfl ?_
          refine Sq.move .plain rfl rfl ?_
          refine Sq.move (.met rfl rfl rfl) rfl rfl ?_
          refine Sq.eql (.met rfl rfl rfl) rfl rfl rfl ?_
          refine Sq.isT (by omega) ?_
          refine Sq.move (.met rfl rfl rfl) rfl rfl ?_
          refine Sq.move (.met rfl rfl rfl) rfl rfl ?_
          refine Sq.partB (fun hx3 => ?_) (fun hx3 => ?_)
          · refine Sq.pickT (.met rfl rfl rfl) rfl rfl rfl ?_
            refine Sq.move (.met rfl rfl rfl) rfl rfl ?_
            refine Sq.move (.met rfl rfl rfl) rfl rfl ?_
            refine Sq.not (.met rfl rfl rfl) rfl rfl ?_
            refine Sq.pickT (.met rfl rfl rfl) rfl rfl rfl ?_
            refine Sq.pickF .plain rfl rfl rfl ?_
            refine Sq.app1 sl24 hoa (by omega) (by first | omega | (simp; omega)) .plain rfl rfl rfl rfl rfl rfl rfl (fun v742 w743 ho745 g744 _ => ?_)
            have hs746 := g744.size
            replace E := E.owned hoa g744 (by omega)
            replace hB4 := hB4.owned hoa g744 (by decide)
            replace hB11 := hB11.owned hoa g744 (by decide)
            replace hB19 := hB19.owned hoa g744 (by decide)
            replace hB607 := hB607.owned hoa g744 (by decide)
            replace hx662 := hx662.owned hoa g744 (by decide) (by decide)
            replace hn661 := hn661.owned hoa g744 (by decide)
            replace hBr := hBr.owned hoa g744 (by decide)
            refine Sq.fieldAddr fld26_2 .plain rfl rfl ?_
            refine Sq.store one24 .plain rfl rfl (Row.one (Own.row ho745)) hBr (by simp) (fun w747 g748 hB749 => ?_)
            have hs750 := World.grownBy.size g748
            replace E := E.grown g748 (fun k hk => by injection hk with hk; subst hk; omega)
            replace hB4 := hB4.grown g748 (by intro h; injection h with h; omega)
            replace hB11 := hB11.grown g748 (by intro h; injection h with h; omega)
            replace hB19 := hB19.grown g748 (by intro h; injection h with h; omega)
            replace hB607 := hB607.grown g748 (by intro h; injection h with h; omega)
            replace hx662 := hx662.stored g748 hBr (by decide) (by decide)
            replace hn661 := hn661.stored g748 hBr (by decide)
            replace ho745 := ho745.stored g748 hBr (by decide)
            replace hBr := hB749
            refine Sq.nil ?_
            refine Eq.end ?_
            refine Eq.next ?_
            refine Cq.region ?_
            refine Sq.add .plain rfl rfl rfl (by omega) ?_
            refine Sq.move .plain rfl rfl ?_
            refine Sq.nil ?_
            have e1 := toNat_succ hi.1
            refine Eq.round _ _ ⟨i + 1, _, _, rfl, by omega, hBr, Own.snocB ho745, by rw [e1, take_snoc 0 (by omega), List.map_append, ← hys]; congr 1; simp only [List.map_cons, List.map_nil, accP, kindB, accA, hk0, hk1, hx3]; first | done | rfl | simp, E, hB4, hB11, hB19, hB607, hx662, hn661, rfl⟩ (by omega) (.cons rfl (.cons rfl (.cons rfl (.cons rfl (.cons rfl (.cons rfl (.cons rfl (.cons rfl (.cons rfl (.nil))))))))))
          refine Sq.pickT (.met rfl rfl rfl) rfl rfl rfl ?_
          refine Sq.move (.met rfl rfl rfl) rfl rfl ?_
          refine Sq.off rfl rfl rfl rfl rfl rfl ?_
          refine Sq.off rfl rfl rfl rfl rfl rfl ?_
          refine Sq.pickF (.met rfl rfl rfl) rfl rfl rfl ?_
          refine Sq.pickF .plain rfl rfl rfl ?_
          refine Sq.app1 sl24 hoa (by omega) (by first | omega | (simp; omega)) .plain rfl rfl rfl rfl rfl rfl rfl (fun v751 w752 ho754 g753 _ => ?_)
          have hs755 := g753.size
          replace E := E.owned hoa g753 (by omega)
          replace hB4 := hB4.owned hoa g753 (by decide)
          replace hB11 := hB11.owned hoa g753 (by decide)
          replace hB19 := hB19.owned hoa g753 (by decide)
          replace hB607 := hB607.owned hoa g753 (by decide)
          replace hx662 := hx662.owned hoa g753 (by decide) (by decide)
          replace hn661 := hn661.owned hoa g753 (by decide)
          replace hBr := hBr.owned hoa g753 (by decide)
          refine Sq.fieldAddr fld26_2 .plain rfl rfl ?_
          refine Sq.store one24 .plain rfl rfl (Row.one (Own.row ho754)) hBr (by simp) (fun w756 g757 hB758 => ?_)
          have hs759 := World.grownBy.size g757
          replace E := E.grown g757 (fun k hk => by injection hk with hk; subst hk; omega)
          replace hB4 := hB4.grown g757 (by intro h; injection h with h; omega)
          replace hB11 := hB11.grown g757 (by intro h; injection h with h; omega)
          replace hB19 := hB19.grown g757 (by intro h; injection h with h; omega)
          replace hB607 := hB607.grown g757 (by intro h; injection h with h; omega)
          replace hx662 := hx662.stored g757 hBr (by decide) (by decide)
          replace hn661 := hn661.stored g757 hBr (by decide)
          replace ho754 := ho754.stored g757 hBr (by decide)
          replace hBr := hB758
          refine Sq.nil ?_
          refine Eq.end ?_
          refine Eq.next ?_
          refine Cq.region ?_
          refine Sq.add .plain rfl rfl rfl (by omega) ?_
          refine Sq.move .plain rfl rfl ?_
          refine Sq.nil ?_
          have e1 := toNat_succ hi.1
          refine Eq.round _ _ ⟨i + 1, _, _, rfl, by omega, hBr, Own.snocB ho754, by rw [e1, take_snoc 0 (by omega), List.map_append, ← hys]; congr 1; simp only [List.map_cons, List.map_nil, accP, kindB, accA, hk0, hk1, hx3]; first | done | rfl | simp, E, hB4, hB11, hB19, hB607, hx662, hn661, rfl⟩ (by omega) (.cons rfl (.cons rfl (.cons rfl (.cons rfl (.cons rfl (.cons rfl (.cons rfl (.cons rfl (.cons rfl (.nil))))))))))
        refine Sq.nil ?_
        refine Eq.next ?_
        refine Cq.seq ?_
        refine Cq.els rfl ?_
        refine Cq.exit ?_
        refine Eq.past ?_
        refine Eq.past ?_
        refine Eq.hit ?_
        refine Eq.next ?_
        refine Cq.seq ?_
        refine Cq.region ?_
        refine Sq.loadAgg agg26 .plain rfl rfl hBr rfl ?_
        refine Sq.storeAgg agg26 .plain rfl rfl (one_cons rfl (one_cons (Rows.one (OwnRows.rows hx662)) (one_cons (Row.one (Own.row hoa)) one_nil))) hB19 rfl rfl (fun w760 g761 hB762 => ?_)
        have hs763 := World.grownBy.size g761
        replace E := E.grown g761 (fun k hk => by injection hk with hk; subst hk; omega)
        replace hx662 := hx662.stored g761 hB19 (by decide) (by decide)
        replace hoa := hoa.stored g761 hB19 (by decide)
        replace hB19 := hB762
        refine Sq.assign .plain rfl rfl ?_
        refine Sq.nil ?_
        refine Eq.next ?_
        refine Cq.ret ?_
        refine Eq.retCell2 rfl rfl agg26 hB19 rfl rfl ?_
        have hok := prodOk_len hv hv' (k := k) (by omega) hl663
        have e : prodA a b k = (⟨(orI a.al b.al), ((ord (fP a b) 0 (letters (orI a.al b.al))).map (rowAt (fP a b) (letters (orI a.al b.al)) (ord (fP a b) 0 (letters (orI a.al b.al))))), ys⟩ : A) := by rw [← numP hv hv', hys, List.take_of_length_le (by omega)]; unfold num; rfl
        exact ⟨⟨_, by rw [hok], by rw [if_pos hok, e]; exact ⟨_, _, rfl, OwnRows.now (OwnRows.mono hx662 (by omega)), hoa⟩⟩, E⟩
      rw [if_neg hl663] at hn661 hx662
      refine Sq.move .plain rfl rfl ?_
      refine Sq.extract .plain rfl rfl rfl ?_
      refine Sq.extract .plain rfl rfl rfl ?_
      refine Sq.extract .plain rfl rfl rfl ?_
      refine Sq.isF (hl663) ?_
      refine Sq.assign .plain rfl rfl ?_
      refine Sq.assign .plain rfl rfl ?_
      refine Sq.assign .plain rfl rfl ?_
      refine Sq.nil ?_
      refine Eq.next ?_
      refine Cq.seq ?_
      refine Cq.seq ?_
      refine Cq.region ?_
      refine Sq.move .plain rfl rfl ?_
      refine Sq.notF .plain rfl rfl ?_
      refine Sq.nil ?_
      refine Eq.next ?_
      refine Cq.thn rfl ?_
      refine Cq.seq ?_
      refine Cq.region ?_
      refine Sq.build st26 rfl rfl .plain rfl rfl one_nil rfl ?_
      refine Sq.storeAgg agg26 .plain rfl rfl (one_cons rfl (one_cons rfl (one_cons rfl one_nil))) hB19 rfl rfl (fun w764 g765 hB766 => ?_)
      have hs767 := World.grownBy.size g765
      replace E := E.grown g765 (fun k hk => by injection hk with hk; subst hk; omega)
      replace hB19 := hB766
      refine Sq.assign .plain rfl rfl ?_
      refine Sq.nil ?_
      refine Eq.next ?_
      refine Cq.ret ?_
      refine Eq.pastRet ?_
      refine Eq.retCell2 rfl rfl agg26 hB19 rfl rfl ?_
      have hno : prodOk a b k = false := prodOk_big hv hv' hl663
      exact ⟨⟨_, by rw [hno], by rw [if_neg (by rw [hno]; decide)]; exact ⟨_, _, rfl, OwnRows.nil _ _ _ _ _, Own.nil _ _ _⟩⟩, E⟩
    refine Sq.notF (.met rfl rfl rfl) rfl rfl ?_
    refine Sq.pickF .plain rfl rfl rfl ?_
    refine Sq.move .plain rfl rfl ?_
    refine Sq.off rfl rfl rfl rfl rfl rfl ?_
    refine Sq.off rfl rfl rfl rfl rfl rfl ?_
    refine Sq.pickT .plain rfl rfl rfl ?_
    refine Sq.move .plain rfl rfl ?_
    refine Sq.off rfl rfl rfl rfl rfl rfl ?_
    refine Sq.off rfl rfl rfl rfl rfl rfl ?_
    refine Sq.pickT .plain rfl rfl rfl ?_
    refine Sq.nil ?_
    refine Eq.next ?_
    refine Cq.thn rfl ?_
    refine Cq.seq ?_
    refine Cq.region ?_
    refine Sq.build st26 rfl rfl .plain rfl rfl one_nil rfl ?_
    refine Sq.storeAgg agg26 .plain rfl rfl (one_cons rfl (one_cons rfl (one_cons rfl one_nil))) hB19 rfl rfl (fun w768 g769 hB770 => ?_)
    have hs771 := World.grownBy.size g769
    replace E := E.grown g769 (fun k hk => by injection hk with hk; subst hk; omega)
    replace hB19 := hB770
    refine Sq.assign .plain rfl rfl ?_
    refine Sq.nil ?_
    refine Eq.next ?_
    refine Cq.ret ?_
    refine Eq.pastRet ?_
    refine Eq.retCell2 rfl rfl agg26 hB19 rfl rfl ?_
    have hno : prodOk a b k = false := prodOk_no (.inr (.inl hv'))
    exact ⟨⟨_, by rw [hno], by rw [if_neg (by rw [hno]; decide)]; exact ⟨_, _, rfl, OwnRows.nil _ _ _ _ _, Own.nil _ _ _⟩⟩, E⟩
  refine Sq.notF .plain rfl rfl ?_
  refine Sq.move .plain rfl rfl ?_
  refine Sq.off rfl rfl rfl rfl rfl rfl ?_
  refine Sq.off rfl rfl rfl rfl rfl rfl ?_
  refine Sq.off rfl rfl rfl rfl rfl rfl ?_
  refine Sq.pickT .plain rfl rfl rfl ?_
  refine Sq.move .plain rfl rfl ?_
  refine Sq.off rfl rfl rfl rfl rfl rfl ?_
  refine Sq.off rfl rfl rfl rfl rfl rfl ?_
  refine Sq.pickT .plain rfl rfl rfl ?_
  refine Sq.move .plain rfl rfl ?_
  refine Sq.off rfl rfl rfl rfl rfl rfl ?_
  refine Sq.off rfl rfl rfl rfl rfl rfl ?_
  refine Sq.pickT .plain rfl rfl rfl ?_
  refine Sq.nil ?_
  refine Eq.next ?_
  refine Cq.thn rfl ?_
  refine Cq.seq ?_
  refine Cq.region ?_
  refine Sq.build st26 rfl rfl .plain rfl rfl one_nil rfl ?_
  refine Sq.storeAgg agg26 .plain rfl rfl (one_cons rfl (one_cons rfl (one_cons rfl one_nil))) hB19 rfl rfl (fun w772 g773 hB774 => ?_)
  have hs775 := World.grownBy.size g773
  replace E := E.grown g773 (fun k hk => by injection hk with hk; subst hk; omega)
  replace hB19 := hB774
  refine Sq.assign .plain rfl rfl ?_
  refine Sq.nil ?_
  refine Eq.next ?_
  refine Cq.ret ?_
  refine Eq.pastRet ?_
  refine Eq.retCell2 rfl rfl agg26 hB19 rfl rfl ?_
  have hno : prodOk a b k = false := prodOk_no (.inl hv)
  exact ⟨⟨_, by rw [hno], by rw [if_neg (by rw [hno]; decide)]; exact ⟨_, _, rfl, OwnRows.nil _ _ _ _ _, Own.nil _ _ _⟩⟩, E⟩
theorem prod_c_T (w0 : World) (a b : A) (nx ac nx' ac' : Value) (hnx : Rows w0 56 3 nx a.next) (hac : Bools w0 4 ac a.acc) (hnx' : Rows w0 56 3 nx' b.next) (hac' : Bools w0 4 ac' b.acc) (k : Int) (hC : prodOk a b k = true) : Ret Try.prog 16 #[Value.agg #[Value.int .i64 a.al, nx, ac], Value.agg #[Value.int .i64 b.al, nx', ac'], Value.int .i64 k] w0 (fun v w => (∃ u, v = .tuple #[u, .bool true] ∧ OwnA w w0.heap.size u (prodA a b k)) ∧ Ext w0 w) :=
  (prod_c w0 a b nx ac nx' ac' hnx hac hnx' hac' k).mono fun v w h => by rw [hC, if_pos rfl] at h; exact h
theorem prod_c_F (w0 : World) (a b : A) (nx ac nx' ac' : Value) (hnx : Rows w0 56 3 nx a.next) (hac : Bools w0 4 ac a.acc) (hnx' : Rows w0 56 3 nx' b.next) (hac' : Bools w0 4 ac' b.acc) (k : Int) (hC : prodOk a b k = false) : Ret Try.prog 16 #[Value.agg #[Value.int .i64 a.al, nx, ac], Value.agg #[Value.int .i64 b.al, nx', ac'], Value.int .i64 k] w0 (fun v w => (∃ u, v = .tuple #[u, .bool false] ∧ OwnA w w0.heap.size u (zeroA)) ∧ Ext w0 w) :=
  (prod_c w0 a b nx ac nx' ac' hnx hac hnx' hac' k).mono fun v w h => by rw [hC, if_neg (by decide)] at h; exact h
end Go.Proofs.Ytdejmfkpohgamaa
set_option linter.unusedSimpArgs false
set_option linter.unusedVariables false
namespace Go.Proofs.Ytdejmfkpohgamaa
open Go.RowKit
set_option maxRecDepth 100000 in
theorem l5Accepts_c (x y : Bool) (k : Int) (w0 : World) : Ret Try.prog 56 #[Value.bool x, Value.bool y, Value.int .i64 k] w0 (fun v w => v = .bool (kindB k x y) ∧ w0 = w) := by
  refine Ret.of (args := [Value.bool x, Value.bool y, Value.int .i64 k]) Try.func56 rfl rfl rfl ?_
  rintro _ rfl
  show Cq _ _ _ _ [(0, Value.bool x), (1, Value.bool y), (2, Value.int .i64 k)] _
  refine Cq.seq ?_
  refine Cq.region ?_
  refine Sq.assign .plain rfl rfl ?_
  refine Sq.nil ?_
  refine Eq.next ?_
  refine Cq.seq ?_
  refine Cq.seq ?_
  refine Cq.region ?_
  refine Sq.move .plain rfl rfl ?_
  refine Sq.nil ?_
  refine Eq.next ?_
  refine Cq.block ?_
  refine Cq.seq ?_
  refine Cq.region ?_
  refine Sq.eql .plain rfl rfl rfl ?_
  refine Sq.part (fun h0 => ?_) (fun h0 => ?_)
  · refine Sq.assign .plain rfl rfl ?_
    refine Sq.nil ?_
    refine Eq.next ?_
    refine Cq.thn rfl ?_
    refine Cq.seq ?_
    refine Cq.region ?_
    refine Sq.move .plain rfl rfl ?_
    refine Sq.partB (fun hx => ?_) (fun hx => ?_)
    · refine Sq.move .plain rfl rfl ?_
      refine Sq.move (.met rfl rfl rfl) rfl rfl ?_
      refine Sq.pickT .plain rfl rfl rfl ?_
      refine Sq.assign .plain rfl rfl ?_
      refine Sq.nil ?_
      refine Eq.next ?_
      refine Cq.ret ?_
      refine Eq.outRet ?_
      refine Eq.pastRet ?_
      refine Eq.ret1 rfl rfl ?_
      exact ⟨by simp only [kindB, h0, hx]; first | done | rfl | simp, rfl⟩
    refine Sq.move .plain rfl rfl ?_
    refine Sq.off rfl rfl rfl rfl rfl rfl ?_
    refine Sq.pickF .plain rfl rfl rfl ?_
    refine Sq.assign .plain rfl rfl ?_
    refine Sq.nil ?_
    refine Eq.next ?_
    refine Cq.ret ?_
    refine Eq.outRet ?_
    refine Eq.pastRet ?_
    refine Eq.ret1 rfl rfl ?_
    exact ⟨by simp only [kindB, h0, hx]; first | done | rfl | simp, rfl⟩
  refine Sq.assign .plain rfl rfl ?_
  refine Sq.nil ?_
  refine Eq.next ?_
  refine Cq.els rfl ?_
  refine Cq.seq ?_
  refine Cq.region ?_
  refine Sq.eql .plain rfl rfl rfl ?_
  refine Sq.part (fun h1 => ?_) (fun h1 => ?_)
  · refine Sq.assign .plain rfl rfl ?_
    refine Sq.nil ?_
    refine Eq.next ?_
    refine Cq.thn rfl ?_
    refine Cq.seq ?_
    refine Cq.region ?_
    refine Sq.move .plain rfl rfl ?_
    refine Sq.partB (fun hx => ?_) (fun hx => ?_)
    · refine Sq.move .plain rfl rfl ?_
      refine Sq.off rfl rfl rfl rfl rfl rfl ?_
      refine Sq.pickT .plain rfl rfl rfl ?_
      refine Sq.assign .plain rfl rfl ?_
      refine Sq.nil ?_
      refine Eq.next ?_
      refine Cq.ret ?_
      refine Eq.outRet ?_
      refine Eq.pastRet ?_
      refine Eq.ret1 rfl rfl ?_
      exact ⟨by simp only [kindB, h0, h1, hx]; first | done | rfl | simp, rfl⟩
    refine Sq.move .plain rfl rfl ?_
    refine Sq.move (.met rfl rfl rfl) rfl rfl ?_
    refine Sq.pickF .plain rfl rfl rfl ?_
    refine Sq.assign .plain rfl rfl ?_
    refine Sq.nil ?_
    refine Eq.next ?_
    refine Cq.ret ?_
    refine Eq.outRet ?_
    refine Eq.pastRet ?_
    refine Eq.ret1 rfl rfl ?_
    exact ⟨by simp only [kindB, h0, h1, hx]; first | done | rfl | simp, rfl⟩
  refine Sq.assign .plain rfl rfl ?_
  refine Sq.nil ?_
  refine Eq.next ?_
  refine Cq.els rfl ?_
  refine Cq.skip ?_
  refine Eq.end ?_
  refine Eq.next ?_
  refine Cq.seq ?_
  refine Cq.region ?_
  refine Sq.move .plain rfl rfl ?_
  refine Sq.partB (fun hx => ?_) (fun hx => ?_)
  · refine Sq.move .plain rfl rfl ?_
    refine Sq.move (.met rfl rfl rfl) rfl rfl ?_
    refine Sq.not (.met rfl rfl rfl) rfl rfl ?_
    refine Sq.pickT .plain rfl rfl rfl ?_
    refine Sq.assign .plain rfl rfl ?_
    refine Sq.nil ?_
    refine Eq.next ?_
    refine Cq.ret ?_
    refine Eq.ret1 rfl rfl ?_
    exact ⟨by simp only [kindB, h0, h1, hx]; first | done | rfl | simp, rfl⟩
  refine Sq.move .plain rfl rfl ?_
  refine Sq.off rfl rfl rfl rfl rfl rfl ?_
  refine Sq.off rfl rfl rfl rfl rfl rfl ?_
  refine Sq.pickF .plain rfl rfl rfl ?_
  refine Sq.assign .plain rfl rfl ?_
  refine Sq.nil ?_
  refine Eq.next ?_
  refine Cq.ret ?_
  refine Eq.ret1 rfl rfl ?_
  exact ⟨by simp only [kindB, h0, h1, hx]; first | done | rfl | simp, rfl⟩
set_option maxRecDepth 100000 in
theorem l5Find_c (w0 : World) (B : Nat) (v : Value) (ps : List (Int × Int)) (hW : Wid w0 B 65 2 v (rows2 ps)) (p : Int × Int) (hl : ps.length ≤ 1000000) : Ret Try.prog 55 #[v, Value.agg #[Value.int .i64 p.1, Value.int .i64 p.2]] w0 (fun v w => v = .int .i64 (findI ps p) ∧ Ext w0 w) := by
  have E := Ext.refl w0
  refine Ret.of (args := [v, Value.agg #[Value.int .i64 p.1, Value.int .i64 p.2]]) Try.func55 rfl rfl rfl ?_
  rintro _ rfl
  show Cq _ _ _ _ [(0, v), (1, Value.agg #[Value.int .i64 p.1, Value.int .i64 p.2])] _
  refine Cq.seq ?_
  refine Cq.region ?_
  refine Sq.box .plain rfl rfl (fun b1 w2 e3 hB4 hlo5 => ?_)
  have hd6 := Nat.le_trans (Below.size E) hlo5
  have hs7 := Below.size e3
  replace E := E.trans e3
  replace hW := hW.ext e3
  refine Sq.assign .plain rfl rfl ?_
  refine Sq.nil ?_
  refine Eq.next ?_
  refine Cq.seq ?_
  refine Cq.seq ?_
  refine Cq.region ?_
  refine Sq.assign .plain rfl rfl ?_
  refine Sq.nil ?_
  refine Eq.next ?_
  refine Cq.block ?_
  refine Cq.loop (fun nn w ls => ∃ (k : Int), ls = [(0, v), (3, Value.pointer (some ⟨b1, 0, none⟩)), (5, Value.int .i64 k)] ∧ (0 ≤ k ∧ k ≤ ps.length) ∧ p ∉ ps.take k.toNat ∧ Ext w0 w ∧ Wid w B 65 2 v (rows2 ps) ∧ Blk w b1 65 [Value.int .i64 p.1, Value.int .i64 p.2] ∧ nn = ((ps.length : Int) - k).toNat) _ _ ⟨0, rfl, by omega, by simp, E, hW, hB4, rfl⟩ (.cons rfl (.cons rfl (.cons rfl (.nil)))) ?_
  rintro nn wl1 ls ⟨k, rfl, hk, hp, E, hW, hB4, rfl⟩
  have hs8 := Below.size E
  refine Cq.seq ?_
  refine Cq.seq ?_
  refine Cq.region ?_
  refine Sq.move .plain rfl rfl ?_
  refine Sq.move .plain rfl rfl ?_
  refine Sq.lenWid hW .plain rfl und66 rfl ?_
  rw [rows2_length]
  refine Sq.lss .plain rfl rfl rfl ?_
  refine Sq.part (fun c9 => ?_) (fun c9 => ?_)
  · refine Sq.nil ?_
    refine Eq.next ?_
    refine Cq.thn rfl ?_
    refine Cq.skip ?_
    refine Eq.next ?_
    refine Cq.seq ?_
    refine Cq.block ?_
    refine Cq.seq ?_
    refine Cq.draw 18 none mixed (fun w10 e11 => ?_)
    have hs12 := Below.size e11
    replace E := E.trans e11
    replace hW := hW.ext e11
    replace hB4 := hB4.ext e11
    have hW_w10 := hW
    have hB4_w10 := hB4
    refine Gq.st 0 rfl (by kernel_rfl) rfl .plain rfl (fun _ _ _ h => h) (World.grownBy.refl w10 _) (fun w' x => Still.move rfl) ?_
    refine Gq.st 1 rfl (by kernel_rfl) rfl .plain rfl (fun _ _ _ h => h) (World.grownBy.refl w10 _) (fun w' x => Still.move rfl) ?_
    obtain ⟨ghgw13, chgw13, hgw13⟩ := Wid.pair hW_w10 (i := k) (by omega) (by omega)
    refine Gq.st 2 rfl (by kernel_rfl) rfl .plain rfl (fun _ _ _ h => h) (World.grownBy.refl w10 _) (fun w' x => Still.ixV slw66 hgw13 rfl rfl (by omega)) ?_
    refine Gq.st 3 rfl (by kernel_rfl) rfl .plain rfl (fun _ _ _ h => h) (World.grownBy.refl w10 _) (fun w' x => Still.fieldAddr fld65_0 rfl) ?_
    refine Gq.st 4 rfl (by kernel_rfl) rfl .plain rfl (fun _ _ _ h => h) (World.grownBy.refl w10 _) (fun w' x => Still.load one3 rfl (Wid.cell2 hgw13 (hW_w10.ext (Ext.of_grown x)) (by omega) (by omega)).1) ?_
    refine Gq.st 5 rfl (by kernel_rfl) rfl .plain rfl (fun _ _ _ h => h) (World.grownBy.refl w10 _) (fun w' x => Still.fieldAddr fld65_0 rfl) ?_
    refine Gq.st 6 rfl (by kernel_rfl) rfl .plain rfl (fun _ _ _ h => h) (World.grownBy.refl w10 _) (fun w' x => Still.loadB one3 rfl (hB4_w10.ext (Ext.of_grown x)) rfl) ?_
    refine Gq.st 7 rfl (by kernel_rfl) rfl .plain rfl (fun _ _ _ h => h) (World.grownBy.refl w10 _) (fun w' x => Still.eql rfl rfl) ?_
    refine Gq.part (fun h1 => ?_) (fun h1 => ?_)
    · refine Gq.st 8 rfl (by kernel_rfl) rfl .plain rfl (fun _ _ _ h => h) (World.grownBy.refl w10 _) (fun w' x => Still.move rfl) ?_
      refine Gq.st 9 rfl (by kernel_rfl) rfl (.met rfl rfl rfl) rfl (fun _ _ _ h => h) (World.grownBy.refl w10 _) (fun w' x => Still.move rfl) ?_
      refine Gq.st 10 rfl (by kernel_rfl) rfl (.met rfl rfl rfl) rfl (fun _ _ _ h => h) (World.grownBy.refl w10 _) (fun w' x => Still.move rfl) ?_
      obtain ⟨ghgw14, chgw14, hgw14⟩ := Wid.pair hW_w10 (i := k) (by omega) (by omega)
      refine Gq.st 11 rfl (by kernel_rfl) rfl (.met rfl rfl rfl) rfl (fun _ _ _ h => h) (World.grownBy.refl w10 _) (fun w' x => Still.ixV slw66 hgw14 rfl rfl (by omega)) ?_
      refine Gq.st 12 rfl (by kernel_rfl) rfl (.met rfl rfl rfl) rfl (fun _ _ _ h => h) (World.grownBy.refl w10 _) (fun w' x => Still.fieldAddr fld65_1 rfl) ?_
      refine Gq.st 13 rfl (by kernel_rfl) rfl (.met rfl rfl rfl) rfl (fun _ _ _ h => h) (World.grownBy.refl w10 _) (fun w' x => Still.load one3 rfl (Wid.cell2 hgw14 (hW_w10.ext (Ext.of_grown x)) (by omega) (by omega)).2) ?_
      refine Gq.st 14 rfl (by kernel_rfl) rfl (.met rfl rfl rfl) rfl (fun _ _ _ h => h) (World.grownBy.refl w10 _) (fun w' x => Still.fieldAddr fld65_1 rfl) ?_
      refine Gq.st 15 rfl (by kernel_rfl) rfl (.met rfl rfl rfl) rfl (fun _ _ _ h => h) (World.grownBy.refl w10 _) (fun w' x => Still.loadB one3 rfl (hB4_w10.ext (Ext.of_grown x)) rfl) ?_
      refine Gq.st 16 rfl (by kernel_rfl) rfl (.met rfl rfl rfl) rfl (fun _ _ _ h => h) (World.grownBy.refl w10 _) (fun w' x => Still.eql rfl rfl) ?_
      refine Gq.part (fun h2 => ?_) (fun h2 => ?_)
      · refine Gq.st 17 rfl (by kernel_rfl) rfl .plain rfl (fun _ _ _ h => h) (World.grownBy.refl w10 _) (fun w' x => Still.pickT rfl rfl) ?_
        refine Gq.done (by kernel_rfl) ?_
        refine Eq.next ?_
        refine Cq.thn rfl ?_
        refine Cq.seq ?_
        refine Cq.region ?_
        refine Sq.move .plain rfl rfl ?_
        refine Sq.assign .plain rfl rfl ?_
        refine Sq.nil ?_
        refine Eq.next ?_
        refine Cq.ret ?_
        refine Eq.outRet ?_
        refine Eq.pastRet ?_
        refine Eq.pastRet ?_
        refine Eq.outRet ?_
        refine Eq.pastRet ?_
        refine Eq.ret1 rfl rfl ?_
        have e := idx_here2 hp (by omega) (Prod.ext h1 h2)
        exact ⟨by rw [e]; congr 1; omega, E⟩
      refine Gq.st 17 rfl (by kernel_rfl) rfl .plain rfl (fun _ _ _ h => h) (World.grownBy.refl w10 _) (fun w' x => Still.pickT rfl rfl) ?_
      refine Gq.done (by kernel_rfl) ?_
      refine Eq.next ?_
      refine Cq.els rfl ?_
      refine Cq.skip ?_
      refine Eq.end ?_
      refine Eq.next ?_
      refine Cq.region ?_
      refine Sq.move .plain rfl rfl ?_
      refine Sq.add .plain rfl rfl rfl (by omega) ?_
      refine Sq.assign .plain rfl rfl ?_
      refine Sq.nil ?_
      have e1 := toNat_succ hk.1
      refine Eq.round _ _ ⟨k + 1, rfl, by omega, by rw [e1]; exact notin_snoc2 hp (by omega) (fun e => h2 (by rw [e])), E, hW, hB4, rfl⟩ (by omega) (.cons rfl (.cons rfl (.cons rfl (.nil))))
    refine Gq.st 8 rfl (by kernel_rfl) rfl .plain rfl (fun _ _ _ h => h) (World.grownBy.refl w10 _) (fun w' x => Still.move rfl) ?_
    refine Gq.off 9 rfl (by kernel_rfl) rfl rfl rfl rfl rfl rfl (fun _ _ _ h => h) (World.grownBy.refl w10 _) ?_
    refine Gq.off 10 rfl (by kernel_rfl) rfl rfl rfl rfl rfl rfl (fun _ _ _ h => h) (World.grownBy.refl w10 _) ?_
    refine Gq.off 11 rfl (by kernel_rfl) rfl rfl rfl rfl rfl rfl (fun _ _ _ h => h) (World.grownBy.refl w10 _) ?_
    refine Gq.off 12 rfl (by kernel_rfl) rfl rfl rfl rfl rfl rfl (fun _ _ _ h => h) (World.grownBy.refl w10 _) ?_
    refine Gq.off 13 rfl (by kernel_rfl) rfl rfl rfl rfl rfl rfl (fun _ _ _ h => h) (World.grownBy.refl w10 _) ?_
    refine Gq.off 14 rfl (by kernel_rfl) rfl rfl rfl rfl rfl rfl (fun _ _ _ h => h) (World.grownBy.refl w10 _) ?_
    refine Gq.off 15 rfl (by kernel_rfl) rfl rfl rfl rfl rfl rfl (fun _ _ _ h => h) (World.grownBy.refl w10 _) ?_
    refine Gq.off 16 rfl (by kernel_rfl) rfl rfl rfl rfl rfl rfl (fun _ _ _ h => h) (World.grownBy.refl w10 _) ?_
    refine Gq.st 17 rfl (by kernel_rfl) rfl .plain rfl (fun _ _ _ h => h) (World.grownBy.refl w10 _) (fun w' x => Still.pickF rfl rfl) ?_
    refine Gq.done (by kernel_rfl) ?_
    refine Eq.next ?_
    refine Cq.els rfl ?_
    refine Cq.skip ?_
    refine Eq.end ?_
    refine Eq.next ?_
    refine Cq.region ?_
    refine Sq.move .plain rfl rfl ?_
    refine Sq.add .plain rfl rfl rfl (by omega) ?_
    refine Sq.assign .plain rfl rfl ?_
    refine Sq.nil ?_
    have e1 := toNat_succ hk.1
    refine Eq.round _ _ ⟨k + 1, rfl, by omega, by rw [e1]; exact notin_snoc2 hp (by omega) (fun e => h1 (by rw [e])), E, hW, hB4, rfl⟩ (by omega) (.cons rfl (.cons rfl (.cons rfl (.nil))))
  refine Sq.nil ?_
  refine Eq.next ?_
  refine Cq.els rfl ?_
  refine Cq.exit ?_
  refine Eq.past ?_
  refine Eq.past ?_
  refine Eq.hit ?_
  refine Eq.next ?_
  refine Cq.seq ?_
  refine Cq.region ?_
  refine Sq.assign .plain rfl rfl ?_
  refine Sq.nil ?_
  refine Eq.next ?_
  refine Cq.ret ?_
  refine Eq.ret1 rfl rfl ?_
  exact ⟨by rw [find_none2 hp (by omega)], E⟩
end Go.Proofs.Ytdejmfkpohgamaa
