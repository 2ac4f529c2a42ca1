/-
  Walks, printed by a program out of the translation and a contract for each function; each step is one law.
-/
import Derived.Test.YtdkdpmmfebdeaaaNg
set_option linter.unusedSimpArgs false
set_option linter.unusedVariables false
namespace Go.Proofs.Ytdkdpmmfebdeaaa
open Go.RowKit

set_option maxHeartbeats 1000000 in
set_option maxRecDepth 100000 in
theorem prod_c (w0 : World) (a b : A) (nx ac nx' ac' : Value) (hnx : Rows w0 52 3 nx a.next) (hac : Bools w0 4 ac a.acc) (hnx' : Rows w0 52 3 nx' b.next) (hac' : Bools w0 4 ac' b.acc) (k : Int) : Ret Try.prog 21 #[Value.agg #[Value.int .i64 a.al, nx, ac], Value.agg #[Value.int .i64 b.al, nx', ac'], Value.int .i64 k] w0 (fun v w => (∃ u, v = .tuple #[u, .bool (prodOk a b k)] ∧ OwnA w w0.heap.size u (if prodOk a b k then prodA a b k else zeroA)) ∧ Ext w0 w) := by
  have E := Ext.refl w0
  refine Ret.of (args := [Value.agg #[Value.int .i64 a.al, nx, ac], Value.agg #[Value.int .i64 b.al, nx', ac'], Value.int .i64 k]) Try.func21 rfl rfl rfl ?_
  rintro _ rfl
  show Cq _ _ _ _ [(0, Value.agg #[Value.int .i64 a.al, nx, ac]), (1, Value.agg #[Value.int .i64 b.al, nx', ac']), (2, Value.int .i64 k)] _
  refine Cq.seq ?_
  refine Cq.region ?_
  refine Sq.box .plain rfl rfl (fun b1 w2 e3 hB4 hlo5 => ?_)
  have hd6 := Nat.le_trans (Below.size E) hlo5
  have hs7 := Below.size e3
  replace E := E.trans e3
  refine Sq.box .plain rfl rfl (fun b8 w9 e10 hB11 hlo12 => ?_)
  have hd13 := Nat.le_trans (Below.size E) hlo12
  have hd14 := Nat.lt_of_lt_of_le hB4.lt hlo12
  have hs15 := Below.size e10
  replace E := E.trans e10
  replace hB4 := hB4.ext e10
  refine Sq.alloc zero27 .plain rfl (fun b16 w17 e18 hB19 hlo20 => ?_)
  have hd21 := Nat.le_trans (Below.size E) hlo20
  have hd22 := Nat.lt_of_lt_of_le hB4.lt hlo20
  have hd23 := Nat.lt_of_lt_of_le hB11.lt hlo20
  have hs24 := Below.size e18
  replace E := E.trans e18
  replace hB4 := hB4.ext e18
  replace hB11 := hB11.ext e18
  refine Sq.assign .plain rfl rfl ?_
  refine Sq.nil ?_
  refine Eq.next ?_
  refine Cq.seq ?_
  refine Cq.seq ?_
  refine Cq.region ?_
  refine Sq.loadAgg agg27 .plain rfl rfl hB4 rfl ?_
  have hd28 := hB4.lt
  have hd29 := hB11.lt
  have hd30 := hB19.lt
  refine Sq.call fn44 .plain rfl rfl (valid_c _ a _ _ (hnx.ext E) (hac.ext E)) ?_
  rintro _ w26 ⟨rfl, e27⟩
  have hs31 := Below.size E
  have hs32 := Below.size e27
  replace E := E.trans e27
  replace hB4 := hB4.ext e27
  replace hB11 := hB11.ext e27
  replace hB19 := hB19.ext e27
  refine Sq.partB (fun hv => ?_) (fun hv => ?_)
  · refine Sq.notT .plain rfl rfl ?_
    refine Sq.move .plain rfl rfl ?_
    refine Sq.loadAgg agg27 (.met rfl rfl rfl) rfl rfl hB11 rfl ?_
    have hd36 := hB4.lt
    have hd37 := hB11.lt
    have hd38 := hB19.lt
    refine Sq.call fn44 (.met rfl rfl rfl) rfl rfl (valid_c _ b _ _ (hnx'.ext E) (hac'.ext E)) ?_
    rintro _ w34 ⟨rfl, e35⟩
    have hs39 := Below.size E
    have hs40 := Below.size e35
    replace E := E.trans e35
    replace hB4 := hB4.ext e35
    replace hB11 := hB11.ext e35
    replace hB19 := hB19.ext e35
    refine Sq.partB (fun hv' => ?_) (fun hv' => ?_)
    · refine Sq.notT (.met rfl rfl rfl) rfl rfl ?_
      refine Sq.pickF .plain rfl rfl rfl ?_
      refine Sq.move .plain rfl rfl ?_
      refine Sq.move (.met rfl rfl rfl) rfl rfl ?_
      refine Sq.lss (.met rfl rfl rfl) rfl rfl rfl ?_
      refine Sq.part (fun hka => ?_) (fun hka => ?_)
      · refine Sq.pickF .plain rfl rfl rfl ?_
        refine Sq.move .plain rfl rfl ?_
        refine Sq.off rfl rfl rfl rfl rfl rfl ?_
        refine Sq.off rfl rfl rfl rfl rfl rfl ?_
        refine Sq.pickT .plain rfl rfl rfl ?_
        refine Sq.nil ?_
        refine Eq.next ?_
        refine Cq.thn rfl ?_
        refine Cq.seq ?_
        refine Cq.region ?_
        refine Sq.build st27 rfl rfl .plain rfl rfl one_nil rfl ?_
        refine Sq.storeAgg agg27 .plain rfl rfl (one_cons rfl (one_cons rfl (one_cons rfl one_nil))) hB19 rfl rfl (fun w41 g42 hB43 => ?_)
        have hs44 := World.grownBy.size g42
        replace E := E.grown g42 (fun k hk => by injection hk with hk; subst hk; omega)
        replace hB4 := hB4.grown g42 (by intro h; injection h with h; omega)
        replace hB11 := hB11.grown g42 (by intro h; injection h with h; omega)
        replace hB19 := hB43
        refine Sq.assign .plain rfl rfl ?_
        refine Sq.nil ?_
        refine Eq.next ?_
        refine Cq.ret ?_
        refine Eq.pastRet ?_
        refine Eq.retCell2 rfl rfl agg27 hB19 rfl rfl ?_
        have hno : prodOk a b k = false := prodOk_no (.inr (.inr (by omega)))
        exact ⟨⟨_, by rw [hno], by rw [if_neg (by rw [hno]; decide)]; exact ⟨_, _, rfl, OwnRows.nil _ _ _ _ _, Own.nil _ _ _⟩⟩, E⟩
      · refine Sq.pickF .plain rfl rfl rfl ?_
        refine Sq.move .plain rfl rfl ?_
        refine Sq.move (.met rfl rfl rfl) rfl rfl ?_
        refine Sq.gtr (.met rfl rfl rfl) rfl rfl rfl ?_
        refine Sq.part (fun hkb => ?_) (fun hkb => ?_)
        · refine Sq.pickF .plain rfl rfl rfl ?_
          refine Sq.nil ?_
          refine Eq.next ?_
          refine Cq.thn rfl ?_
          refine Cq.seq ?_
          refine Cq.region ?_
          refine Sq.build st27 rfl rfl .plain rfl rfl one_nil rfl ?_
          refine Sq.storeAgg agg27 .plain rfl rfl (one_cons rfl (one_cons rfl (one_cons rfl one_nil))) hB19 rfl rfl (fun w45 g46 hB47 => ?_)
          have hs48 := World.grownBy.size g46
          replace E := E.grown g46 (fun k hk => by injection hk with hk; subst hk; omega)
          replace hB4 := hB4.grown g46 (by intro h; injection h with h; omega)
          replace hB11 := hB11.grown g46 (by intro h; injection h with h; omega)
          replace hB19 := hB47
          refine Sq.assign .plain rfl rfl ?_
          refine Sq.nil ?_
          refine Eq.next ?_
          refine Cq.ret ?_
          refine Eq.pastRet ?_
          refine Eq.retCell2 rfl rfl agg27 hB19 rfl rfl ?_
          have hno : prodOk a b k = false := prodOk_no (.inr (.inr (by omega)))
          exact ⟨⟨_, by rw [hno], by rw [if_neg (by rw [hno]; decide)]; exact ⟨_, _, rfl, OwnRows.nil _ _ _ _ _, Own.nil _ _ _⟩⟩, E⟩
        · refine Sq.pickF .plain rfl rfl rfl ?_
          refine Sq.nil ?_
          refine Eq.next ?_
          refine Cq.els rfl ?_
          refine Cq.skip ?_
          refine Eq.next ?_
          refine Cq.seq ?_
          refine Cq.cut (fun ls w => ∃ (c8 : Nat), ∃ (c9 : Nat), ∃ (t1 : Nat), ∃ (t2 : Nat), ∃ (xs : List Int), ∃ (ys0 : List Int), ls = [(2, Value.int .i64 k), (3, Value.pointer (some ⟨b1, 0, none⟩)), (4, Value.pointer (some ⟨b8, 0, none⟩)), (6, Value.pointer (some ⟨b16, 0, none⟩)), (7, Value.bool false), (8, Value.pointer (some ⟨c8, 0, none⟩)), (9, Value.pointer (some ⟨c9, 0, none⟩))] ∧ Blk w c8 60 [Value.slice (some ⟨t1, 0, none⟩) a.next.length a.next.length] ∧ Blk w c9 60 [Value.slice (some ⟨t2, 0, none⟩) b.next.length b.next.length] ∧ Blk w t1 64 (xs.map (Value.int .i64)) ∧ Blk w t2 64 (ys0.map (Value.int .i64)) ∧ Tab a xs ∧ Tab b ys0 ∧ (b1 < c8 ∧ b1 < c9 ∧ b1 < t1 ∧ b1 < t2 ∧ b8 < c8 ∧ b8 < c9 ∧ b8 < t1 ∧ b8 < t2 ∧ b16 < c8 ∧ b16 < c9 ∧ b16 < t1 ∧ b16 < t2) ∧ Ext w0 w ∧ Blk w b1 27 [Value.int .i64 a.al, nx, ac] ∧ Blk w b8 27 [Value.int .i64 b.al, nx', ac'] ∧ Blk w b16 27 [Value.int .i64 0, Value.slice none 0 0, Value.slice none 0 0]) ?_ ?_
          · refine Cq.drawS 7 (fun w' => Blk w' b1 27 [Value.int .i64 a.al, nx, ac] ∧ Blk w' b8 27 [Value.int .i64 b.al, nx', ac']) mixed (⟨hB4, hB11⟩) (fun w49 e50 hS => ?_)
            clear hS
            have hs51 := Below.size e50
            replace E := E.trans e50
            replace hB4 := hB4.ext e50
            replace hB11 := hB11.ext e50
            replace hB19 := hB19.ext e50
            have E_w49 := E
            have hB4_w49 := hB4
            have hB11_w49 := hB11
            have hB19_w49 := hB19
            refine Gq.st 0 rfl (by kernel_rfl) rfl .plain rfl (fun _ _ _ h => h) ⟨hB4, hB11⟩ (fun w' x => Still.loadAgg agg27 rfl x.1 rfl) ?_
            refine Gq.st 2 rfl (by kernel_rfl) rfl .plain rfl (fun _ _ _ h => h) ⟨hB4, hB11⟩ (fun w' x => Still.loadAgg agg27 rfl x.2 rfl) ?_
            refine Gq.three 1 4 5 rfl rfl rfl (by kernel_rfl) ?_ ?_ ?_
            · have hd60 := hB4.lt
              have hd61 := hB11.lt
              have hd62 := hB19.lt
              refine Sq.call fn56 .plain rfl rfl (tableOf_c _ a _ _ (hnx.ext E) (hac.ext E) hv) ?_
              rintro _ w53 ⟨⟨b55, xs56, rfl, hlo57, hT58, hTab59⟩, e54⟩
              have hs63 := Below.size E
              have hs64 := Below.size e54
              replace E := E.trans e54
              replace hB4 := hB4.ext e54
              replace hB11 := hB11.ext e54
              replace hB19 := hB19.ext e54
              refine Sq.nil ?_
              refine Eq.goes (fun _ => ⟨hB4, hB11⟩) ?_
              refine Gq.three 3 4 5 rfl rfl rfl (by kernel_rfl) ?_ ?_ ?_
              · have hd73 := hB4.lt
                have hd74 := hB11.lt
                have hd75 := hB19.lt
                have hd76 := hT58.lt
                refine Sq.call fn56 .plain rfl rfl (tableOf_c _ b _ _ (hnx'.ext E) (hac'.ext E) hv') ?_
                rintro _ w66 ⟨⟨b68, xs69, rfl, hlo70, hT71, hTab72⟩, e67⟩
                have hs77 := Below.size E
                have hs78 := Below.size e67
                replace E := E.trans e67
                replace hB4 := hB4.ext e67
                replace hB11 := hB11.ext e67
                replace hB19 := hB19.ext e67
                replace hT58 := hT58.ext e67
                refine Sq.nil ?_
                refine Eq.goes (fun _ => ⟨hB4, hB11⟩) ?_
                refine Gq.two 4 5 rfl rfl (by kernel_rfl) ?_ ?_
                · refine Sq.alloc1 zero60 rfl .plain rfl (fun b79 w80 e81 hB82 hlo83 => ?_)
                  have hd84 := Nat.le_trans (Below.size E) hlo83
                  have hd85 := Nat.lt_of_lt_of_le hB4.lt hlo83
                  have hd86 := Nat.lt_of_lt_of_le hB11.lt hlo83
                  have hd87 := Nat.lt_of_lt_of_le hB19.lt hlo83
                  have hd88 := Nat.lt_of_lt_of_le hT58.lt hlo83
                  have hd89 := Nat.lt_of_lt_of_le hT71.lt hlo83
                  have hs90 := Below.size e81
                  replace E := E.trans e81
                  replace hB4 := hB4.ext e81
                  replace hB11 := hB11.ext e81
                  replace hB19 := hB19.ext e81
                  replace hT58 := hT58.ext e81
                  replace hT71 := hT71.ext e81
                  refine Sq.nil ?_
                  refine Eq.goes (fun _ => ⟨hB4, hB11⟩) ?_
                  refine Gq.one 5 rfl (by kernel_rfl) ?_
                  refine Sq.alloc1 zero60 rfl .plain rfl (fun b91 w92 e93 hB94 hlo95 => ?_)
                  have hd96 := Nat.le_trans (Below.size E) hlo95
                  have hd97 := Nat.lt_of_lt_of_le hB4.lt hlo95
                  have hd98 := Nat.lt_of_lt_of_le hB11.lt hlo95
                  have hd99 := Nat.lt_of_lt_of_le hB19.lt hlo95
                  have hd100 := Nat.lt_of_lt_of_le hT58.lt hlo95
                  have hd101 := Nat.lt_of_lt_of_le hT71.lt hlo95
                  have hd102 := Nat.lt_of_lt_of_le hB82.lt hlo95
                  have hs103 := Below.size e93
                  replace E := E.trans e93
                  replace hB4 := hB4.ext e93
                  replace hB11 := hB11.ext e93
                  replace hB19 := hB19.ext e93
                  replace hT58 := hT58.ext e93
                  replace hT71 := hT71.ext e93
                  replace hB82 := hB82.ext e93
                  refine Sq.nil ?_
                  refine Eq.goes (fun _ => ⟨hB4, hB11⟩) ?_
                  refine Gq.one 6 rfl (by kernel_rfl) ?_
                  refine Sq.store one60 .plain rfl rfl rfl hB82 (by simp) (fun w104 g105 hB106 => ?_)
                  have hs107 := World.grownBy.size g105
                  replace E := E.grown g105 (fun k hk => by injection hk with hk; subst hk; omega)
                  replace hB4 := hB4.grown g105 (by intro h; injection h with h; omega)
                  replace hB11 := hB11.grown g105 (by intro h; injection h with h; omega)
                  replace hB19 := hB19.grown g105 (by intro h; injection h with h; omega)
                  replace hT58 := hT58.grown g105 (by intro h; injection h with h; omega)
                  replace hT71 := hT71.grown g105 (by intro h; injection h with h; omega)
                  replace hB94 := hB94.grown g105 (by intro h; injection h with h; omega)
                  replace hB82 := hB106
                  refine Sq.nil ?_
                  refine Eq.goes (fun _ => ⟨hB4, hB11⟩) ?_
                  refine Gq.one 7 rfl (by kernel_rfl) ?_
                  refine Sq.store one60 .plain rfl rfl rfl hB94 (by simp) (fun w108 g109 hB110 => ?_)
                  have hs111 := World.grownBy.size g109
                  replace E := E.grown g109 (fun k hk => by injection hk with hk; subst hk; omega)
                  replace hB4 := hB4.grown g109 (by intro h; injection h with h; omega)
                  replace hB11 := hB11.grown g109 (by intro h; injection h with h; omega)
                  replace hB19 := hB19.grown g109 (by intro h; injection h with h; omega)
                  replace hT58 := hT58.grown g109 (by intro h; injection h with h; omega)
                  replace hT71 := hT71.grown g109 (by intro h; injection h with h; omega)
                  replace hB82 := hB82.grown g109 (by intro h; injection h with h; omega)
                  replace hB94 := hB110
                  refine Sq.nil ?_
                  refine Eq.goes (fun h => absurd h (by decide)) ?_
                  refine Gq.done (by kernel_rfl) ?_
                  refine Eq.left _ ⟨b79, b91, _, _, _, _, rfl, hB82, hB94, hT58, hT71, hTab59, hTab72, by omega, E, hB4, hB11, hB19⟩ (.cons rfl (.cons rfl (.cons rfl (.cons rfl (.cons rfl (.cons rfl (.cons rfl (.nil))))))))
                · refine Sq.alloc1 zero60 rfl .plain rfl (fun b112 w113 e114 hB115 hlo116 => ?_)
                  have hd117 := Nat.le_trans (Below.size E) hlo116
                  have hd118 := Nat.lt_of_lt_of_le hB4.lt hlo116
                  have hd119 := Nat.lt_of_lt_of_le hB11.lt hlo116
                  have hd120 := Nat.lt_of_lt_of_le hB19.lt hlo116
                  have hd121 := Nat.lt_of_lt_of_le hT58.lt hlo116
                  have hd122 := Nat.lt_of_lt_of_le hT71.lt hlo116
                  have hs123 := Below.size e114
                  replace E := E.trans e114
                  replace hB4 := hB4.ext e114
                  replace hB11 := hB11.ext e114
                  replace hB19 := hB19.ext e114
                  replace hT58 := hT58.ext e114
                  replace hT71 := hT71.ext e114
                  refine Sq.nil ?_
                  refine Eq.goes (fun _ => ⟨hB4, hB11⟩) ?_
                  refine Gq.one 4 rfl (by kernel_rfl) ?_
                  refine Sq.alloc1 zero60 rfl .plain rfl (fun b124 w125 e126 hB127 hlo128 => ?_)
                  have hd129 := Nat.le_trans (Below.size E) hlo128
                  have hd130 := Nat.lt_of_lt_of_le hB4.lt hlo128
                  have hd131 := Nat.lt_of_lt_of_le hB11.lt hlo128
                  have hd132 := Nat.lt_of_lt_of_le hB19.lt hlo128
                  have hd133 := Nat.lt_of_lt_of_le hT58.lt hlo128
                  have hd134 := Nat.lt_of_lt_of_le hT71.lt hlo128
                  have hd135 := Nat.lt_of_lt_of_le hB115.lt hlo128
                  have hs136 := Below.size e126
                  replace E := E.trans e126
                  replace hB4 := hB4.ext e126
                  replace hB11 := hB11.ext e126
                  replace hB19 := hB19.ext e126
                  replace hT58 := hT58.ext e126
                  replace hT71 := hT71.ext e126
                  replace hB115 := hB115.ext e126
                  refine Sq.nil ?_
                  refine Eq.goes (fun _ => ⟨hB4, hB11⟩) ?_
                  refine Gq.one 6 rfl (by kernel_rfl) ?_
                  refine Sq.store one60 .plain rfl rfl rfl hB127 (by simp) (fun w137 g138 hB139 => ?_)
                  have hs140 := World.grownBy.size g138
                  replace E := E.grown g138 (fun k hk => by injection hk with hk; subst hk; omega)
                  replace hB4 := hB4.grown g138 (by intro h; injection h with h; omega)
                  replace hB11 := hB11.grown g138 (by intro h; injection h with h; omega)
                  replace hB19 := hB19.grown g138 (by intro h; injection h with h; omega)
                  replace hT58 := hT58.grown g138 (by intro h; injection h with h; omega)
                  replace hT71 := hT71.grown g138 (by intro h; injection h with h; omega)
                  replace hB115 := hB115.grown g138 (by intro h; injection h with h; omega)
                  replace hB127 := hB139
                  refine Sq.nil ?_
                  refine Eq.goes (fun _ => ⟨hB4, hB11⟩) ?_
                  refine Gq.one 7 rfl (by kernel_rfl) ?_
                  refine Sq.store one60 .plain rfl rfl rfl hB115 (by simp) (fun w141 g142 hB143 => ?_)
                  have hs144 := World.grownBy.size g142
                  replace E := E.grown g142 (fun k hk => by injection hk with hk; subst hk; omega)
                  replace hB4 := hB4.grown g142 (by intro h; injection h with h; omega)
                  replace hB11 := hB11.grown g142 (by intro h; injection h with h; omega)
                  replace hB19 := hB19.grown g142 (by intro h; injection h with h; omega)
                  replace hT58 := hT58.grown g142 (by intro h; injection h with h; omega)
                  replace hT71 := hT71.grown g142 (by intro h; injection h with h; omega)
                  replace hB127 := hB127.grown g142 (by intro h; injection h with h; omega)
                  replace hB115 := hB143
                  refine Sq.nil ?_
                  refine Eq.goes (fun h => absurd h (by decide)) ?_
                  refine Gq.done (by kernel_rfl) ?_
                  refine Eq.left _ ⟨b124, b112, _, _, _, _, rfl, hB127, hB115, hT58, hT71, hTab59, hTab72, by omega, E, hB4, hB11, hB19⟩ (.cons rfl (.cons rfl (.cons rfl (.cons rfl (.cons rfl (.cons rfl (.cons rfl (.nil))))))))
              · refine Sq.alloc1 zero60 rfl .plain rfl (fun b145 w146 e147 hB148 hlo149 => ?_)
                have hd150 := Nat.le_trans (Below.size E) hlo149
                have hd151 := Nat.lt_of_lt_of_le hB4.lt hlo149
                have hd152 := Nat.lt_of_lt_of_le hB11.lt hlo149
                have hd153 := Nat.lt_of_lt_of_le hB19.lt hlo149
                have hd154 := Nat.lt_of_lt_of_le hT58.lt hlo149
                have hs155 := Below.size e147
                replace E := E.trans e147
                replace hB4 := hB4.ext e147
                replace hB11 := hB11.ext e147
                replace hB19 := hB19.ext e147
                replace hT58 := hT58.ext e147
                refine Sq.nil ?_
                refine Eq.goes (fun _ => ⟨hB4, hB11⟩) ?_
                refine Gq.two 3 5 rfl rfl (by kernel_rfl) ?_ ?_
                · have hd164 := hB4.lt
                  have hd165 := hB11.lt
                  have hd166 := hB19.lt
                  have hd167 := hT58.lt
                  have hd168 := hB148.lt
                  refine Sq.call fn56 .plain rfl rfl (tableOf_c _ b _ _ (hnx'.ext E) (hac'.ext E) hv') ?_
                  rintro _ w157 ⟨⟨b159, xs160, rfl, hlo161, hT162, hTab163⟩, e158⟩
                  have hs169 := Below.size E
                  have hs170 := Below.size e158
                  replace E := E.trans e158
                  replace hB4 := hB4.ext e158
                  replace hB11 := hB11.ext e158
                  replace hB19 := hB19.ext e158
                  replace hT58 := hT58.ext e158
                  replace hB148 := hB148.ext e158
                  refine Sq.nil ?_
                  refine Eq.goes (fun _ => ⟨hB4, hB11⟩) ?_
                  refine Gq.one 5 rfl (by kernel_rfl) ?_
                  refine Sq.alloc1 zero60 rfl .plain rfl (fun b171 w172 e173 hB174 hlo175 => ?_)
                  have hd176 := Nat.le_trans (Below.size E) hlo175
                  have hd177 := Nat.lt_of_lt_of_le hB4.lt hlo175
                  have hd178 := Nat.lt_of_lt_of_le hB11.lt hlo175
                  have hd179 := Nat.lt_of_lt_of_le hB19.lt hlo175
                  have hd180 := Nat.lt_of_lt_of_le hT58.lt hlo175
                  have hd181 := Nat.lt_of_lt_of_le hB148.lt hlo175
                  have hd182 := Nat.lt_of_lt_of_le hT162.lt hlo175
                  have hs183 := Below.size e173
                  replace E := E.trans e173
                  replace hB4 := hB4.ext e173
                  replace hB11 := hB11.ext e173
                  replace hB19 := hB19.ext e173
                  replace hT58 := hT58.ext e173
                  replace hB148 := hB148.ext e173
                  replace hT162 := hT162.ext e173
                  refine Sq.nil ?_
                  refine Eq.goes (fun _ => ⟨hB4, hB11⟩) ?_
                  refine Gq.one 6 rfl (by kernel_rfl) ?_
                  refine Sq.store one60 .plain rfl rfl rfl hB148 (by simp) (fun w184 g185 hB186 => ?_)
                  have hs187 := World.grownBy.size g185
                  replace E := E.grown g185 (fun k hk => by injection hk with hk; subst hk; omega)
                  replace hB4 := hB4.grown g185 (by intro h; injection h with h; omega)
                  replace hB11 := hB11.grown g185 (by intro h; injection h with h; omega)
                  replace hB19 := hB19.grown g185 (by intro h; injection h with h; omega)
                  replace hT58 := hT58.grown g185 (by intro h; injection h with h; omega)
                  replace hT162 := hT162.grown g185 (by intro h; injection h with h; omega)
                  replace hB174 := hB174.grown g185 (by intro h; injection h with h; omega)
                  replace hB148 := hB186
                  refine Sq.nil ?_
                  refine Eq.goes (fun _ => ⟨hB4, hB11⟩) ?_
                  refine Gq.one 7 rfl (by kernel_rfl) ?_
                  refine Sq.store one60 .plain rfl rfl rfl hB174 (by simp) (fun w188 g189 hB190 => ?_)
                  have hs191 := World.grownBy.size g189
                  replace E := E.grown g189 (fun k hk => by injection hk with hk; subst hk; omega)
                  replace hB4 := hB4.grown g189 (by intro h; injection h with h; omega)
                  replace hB11 := hB11.grown g189 (by intro h; injection h with h; omega)
                  replace hB19 := hB19.grown g189 (by intro h; injection h with h; omega)
                  replace hT58 := hT58.grown g189 (by intro h; injection h with h; omega)
                  replace hB148 := hB148.grown g189 (by intro h; injection h with h; omega)
                  replace hT162 := hT162.grown g189 (by intro h; injection h with h; omega)
                  replace hB174 := hB190
                  refine Sq.nil ?_
                  refine Eq.goes (fun h => absurd h (by decide)) ?_
                  refine Gq.done (by kernel_rfl) ?_
                  refine Eq.left _ ⟨b145, b171, _, _, _, _, rfl, hB148, hB174, hT58, hT162, hTab59, hTab163, by omega, E, hB4, hB11, hB19⟩ (.cons rfl (.cons rfl (.cons rfl (.cons rfl (.cons rfl (.cons rfl (.cons rfl (.nil))))))))
                · refine Sq.alloc1 zero60 rfl .plain rfl (fun b192 w193 e194 hB195 hlo196 => ?_)
                  have hd197 := Nat.le_trans (Below.size E) hlo196
                  have hd198 := Nat.lt_of_lt_of_le hB4.lt hlo196
                  have hd199 := Nat.lt_of_lt_of_le hB11.lt hlo196
                  have hd200 := Nat.lt_of_lt_of_le hB19.lt hlo196
                  have hd201 := Nat.lt_of_lt_of_le hT58.lt hlo196
                  have hd202 := Nat.lt_of_lt_of_le hB148.lt hlo196
                  have hs203 := Below.size e194
                  replace E := E.trans e194
                  replace hB4 := hB4.ext e194
                  replace hB11 := hB11.ext e194
                  replace hB19 := hB19.ext e194
                  replace hT58 := hT58.ext e194
                  replace hB148 := hB148.ext e194
                  refine Sq.nil ?_
                  refine Eq.goes (fun _ => ⟨hB4, hB11⟩) ?_
                  refine Gq.one 3 rfl (by kernel_rfl) ?_
                  have hd212 := hB4.lt
                  have hd213 := hB11.lt
                  have hd214 := hB19.lt
                  have hd215 := hT58.lt
                  have hd216 := hB148.lt
                  have hd217 := hB195.lt
                  refine Sq.call fn56 .plain rfl rfl (tableOf_c _ b _ _ (hnx'.ext E) (hac'.ext E) hv') ?_
                  rintro _ w205 ⟨⟨b207, xs208, rfl, hlo209, hT210, hTab211⟩, e206⟩
                  have hs218 := Below.size E
                  have hs219 := Below.size e206
                  replace E := E.trans e206
                  replace hB4 := hB4.ext e206
                  replace hB11 := hB11.ext e206
                  replace hB19 := hB19.ext e206
                  replace hT58 := hT58.ext e206
                  replace hB148 := hB148.ext e206
                  replace hB195 := hB195.ext e206
                  refine Sq.nil ?_
                  refine Eq.goes (fun _ => ⟨hB4, hB11⟩) ?_
                  refine Gq.one 6 rfl (by kernel_rfl) ?_
                  refine Sq.store one60 .plain rfl rfl rfl hB148 (by simp) (fun w220 g221 hB222 => ?_)
                  have hs223 := World.grownBy.size g221
                  replace E := E.grown g221 (fun k hk => by injection hk with hk; subst hk; omega)
                  replace hB4 := hB4.grown g221 (by intro h; injection h with h; omega)
                  replace hB11 := hB11.grown g221 (by intro h; injection h with h; omega)
                  replace hB19 := hB19.grown g221 (by intro h; injection h with h; omega)
                  replace hT58 := hT58.grown g221 (by intro h; injection h with h; omega)
                  replace hB195 := hB195.grown g221 (by intro h; injection h with h; omega)
                  replace hT210 := hT210.grown g221 (by intro h; injection h with h; omega)
                  replace hB148 := hB222
                  refine Sq.nil ?_
                  refine Eq.goes (fun _ => ⟨hB4, hB11⟩) ?_
                  refine Gq.one 7 rfl (by kernel_rfl) ?_
                  refine Sq.store one60 .plain rfl rfl rfl hB195 (by simp) (fun w224 g225 hB226 => ?_)
                  have hs227 := World.grownBy.size g225
                  replace E := E.grown g225 (fun k hk => by injection hk with hk; subst hk; omega)
                  replace hB4 := hB4.grown g225 (by intro h; injection h with h; omega)
                  replace hB11 := hB11.grown g225 (by intro h; injection h with h; omega)
                  replace hB19 := hB19.grown g225 (by intro h; injection h with h; omega)
                  replace hT58 := hT58.grown g225 (by intro h; injection h with h; omega)
                  replace hB148 := hB148.grown g225 (by intro h; injection h with h; omega)
                  replace hT210 := hT210.grown g225 (by intro h; injection h with h; omega)
                  replace hB195 := hB226
                  refine Sq.nil ?_
                  refine Eq.goes (fun h => absurd h (by decide)) ?_
                  refine Gq.done (by kernel_rfl) ?_
                  refine Eq.left _ ⟨b145, b192, _, _, _, _, rfl, hB148, hB195, hT58, hT210, hTab59, hTab211, by omega, E, hB4, hB11, hB19⟩ (.cons rfl (.cons rfl (.cons rfl (.cons rfl (.cons rfl (.cons rfl (.cons rfl (.nil))))))))
              · refine Sq.alloc1 zero60 rfl .plain rfl (fun b228 w229 e230 hB231 hlo232 => ?_)
                have hd233 := Nat.le_trans (Below.size E) hlo232
                have hd234 := Nat.lt_of_lt_of_le hB4.lt hlo232
                have hd235 := Nat.lt_of_lt_of_le hB11.lt hlo232
                have hd236 := Nat.lt_of_lt_of_le hB19.lt hlo232
                have hd237 := Nat.lt_of_lt_of_le hT58.lt hlo232
                have hs238 := Below.size e230
                replace E := E.trans e230
                replace hB4 := hB4.ext e230
                replace hB11 := hB11.ext e230
                replace hB19 := hB19.ext e230
                replace hT58 := hT58.ext e230
                refine Sq.nil ?_
                refine Eq.goes (fun _ => ⟨hB4, hB11⟩) ?_
                refine Gq.two 3 4 rfl rfl (by kernel_rfl) ?_ ?_
                · have hd247 := hB4.lt
                  have hd248 := hB11.lt
                  have hd249 := hB19.lt
                  have hd250 := hT58.lt
                  have hd251 := hB231.lt
                  refine Sq.call fn56 .plain rfl rfl (tableOf_c _ b _ _ (hnx'.ext E) (hac'.ext E) hv') ?_
                  rintro _ w240 ⟨⟨b242, xs243, rfl, hlo244, hT245, hTab246⟩, e241⟩
                  have hs252 := Below.size E
                  have hs253 := Below.size e241
                  replace E := E.trans e241
                  replace hB4 := hB4.ext e241
                  replace hB11 := hB11.ext e241
                  replace hB19 := hB19.ext e241
                  replace hT58 := hT58.ext e241
                  replace hB231 := hB231.ext e241
                  refine Sq.nil ?_
                  refine Eq.goes (fun _ => ⟨hB4, hB11⟩) ?_
                  refine Gq.one 4 rfl (by kernel_rfl) ?_
                  refine Sq.alloc1 zero60 rfl .plain rfl (fun b254 w255 e256 hB257 hlo258 => ?_)
                  have hd259 := Nat.le_trans (Below.size E) hlo258
                  have hd260 := Nat.lt_of_lt_of_le hB4.lt hlo258
                  have hd261 := Nat.lt_of_lt_of_le hB11.lt hlo258
                  have hd262 := Nat.lt_of_lt_of_le hB19.lt hlo258
                  have hd263 := Nat.lt_of_lt_of_le hT58.lt hlo258
                  have hd264 := Nat.lt_of_lt_of_le hB231.lt hlo258
                  have hd265 := Nat.lt_of_lt_of_le hT245.lt hlo258
                  have hs266 := Below.size e256
                  replace E := E.trans e256
                  replace hB4 := hB4.ext e256
                  replace hB11 := hB11.ext e256
                  replace hB19 := hB19.ext e256
                  replace hT58 := hT58.ext e256
                  replace hB231 := hB231.ext e256
                  replace hT245 := hT245.ext e256
                  refine Sq.nil ?_
                  refine Eq.goes (fun _ => ⟨hB4, hB11⟩) ?_
                  refine Gq.one 6 rfl (by kernel_rfl) ?_
                  refine Sq.store one60 .plain rfl rfl rfl hB257 (by simp) (fun w267 g268 hB269 => ?_)
                  have hs270 := World.grownBy.size g268
                  replace E := E.grown g268 (fun k hk => by injection hk with hk; subst hk; omega)
                  replace hB4 := hB4.grown g268 (by intro h; injection h with h; omega)
                  replace hB11 := hB11.grown g268 (by intro h; injection h with h; omega)
                  replace hB19 := hB19.grown g268 (by intro h; injection h with h; omega)
                  replace hT58 := hT58.grown g268 (by intro h; injection h with h; omega)
                  replace hB231 := hB231.grown g268 (by intro h; injection h with h; omega)
                  replace hT245 := hT245.grown g268 (by intro h; injection h with h; omega)
                  replace hB257 := hB269
                  refine Sq.nil ?_
                  refine Eq.goes (fun _ => ⟨hB4, hB11⟩) ?_
                  refine Gq.one 7 rfl (by kernel_rfl) ?_
                  refine Sq.store one60 .plain rfl rfl rfl hB231 (by simp) (fun w271 g272 hB273 => ?_)
                  have hs274 := World.grownBy.size g272
                  replace E := E.grown g272 (fun k hk => by injection hk with hk; subst hk; omega)
                  replace hB4 := hB4.grown g272 (by intro h; injection h with h; omega)
                  replace hB11 := hB11.grown g272 (by intro h; injection h with h; omega)
                  replace hB19 := hB19.grown g272 (by intro h; injection h with h; omega)
                  replace hT58 := hT58.grown g272 (by intro h; injection h with h; omega)
                  replace hT245 := hT245.grown g272 (by intro h; injection h with h; omega)
                  replace hB257 := hB257.grown g272 (by intro h; injection h with h; omega)
                  replace hB231 := hB273
                  refine Sq.nil ?_
                  refine Eq.goes (fun h => absurd h (by decide)) ?_
                  refine Gq.done (by kernel_rfl) ?_
                  refine Eq.left _ ⟨b254, b228, _, _, _, _, rfl, hB257, hB231, hT58, hT245, hTab59, hTab246, by omega, E, hB4, hB11, hB19⟩ (.cons rfl (.cons rfl (.cons rfl (.cons rfl (.cons rfl (.cons rfl (.cons rfl (.nil))))))))
                · refine Sq.alloc1 zero60 rfl .plain rfl (fun b275 w276 e277 hB278 hlo279 => ?_)
                  have hd280 := Nat.le_trans (Below.size E) hlo279
                  have hd281 := Nat.lt_of_lt_of_le hB4.lt hlo279
                  have hd282 := Nat.lt_of_lt_of_le hB11.lt hlo279
                  have hd283 := Nat.lt_of_lt_of_le hB19.lt hlo279
                  have hd284 := Nat.lt_of_lt_of_le hT58.lt hlo279
                  have hd285 := Nat.lt_of_lt_of_le hB231.lt hlo279
                  have hs286 := Below.size e277
                  replace E := E.trans e277
                  replace hB4 := hB4.ext e277
                  replace hB11 := hB11.ext e277
                  replace hB19 := hB19.ext e277
                  replace hT58 := hT58.ext e277
                  replace hB231 := hB231.ext e277
                  refine Sq.nil ?_
                  refine Eq.goes (fun _ => ⟨hB4, hB11⟩) ?_
                  refine Gq.one 3 rfl (by kernel_rfl) ?_
                  have hd295 := hB4.lt
                  have hd296 := hB11.lt
                  have hd297 := hB19.lt
                  have hd298 := hT58.lt
                  have hd299 := hB231.lt
                  have hd300 := hB278.lt
                  refine Sq.call fn56 .plain rfl rfl (tableOf_c _ b _ _ (hnx'.ext E) (hac'.ext E) hv') ?_
                  rintro _ w288 ⟨⟨b290, xs291, rfl, hlo292, hT293, hTab294⟩, e289⟩
                  have hs301 := Below.size E
                  have hs302 := Below.size e289
                  replace E := E.trans e289
                  replace hB4 := hB4.ext e289
                  replace hB11 := hB11.ext e289
                  replace hB19 := hB19.ext e289
                  replace hT58 := hT58.ext e289
                  replace hB231 := hB231.ext e289
                  replace hB278 := hB278.ext e289
                  refine Sq.nil ?_
                  refine Eq.goes (fun _ => ⟨hB4, hB11⟩) ?_
                  refine Gq.one 6 rfl (by kernel_rfl) ?_
                  refine Sq.store one60 .plain rfl rfl rfl hB278 (by simp) (fun w303 g304 hB305 => ?_)
                  have hs306 := World.grownBy.size g304
                  replace E := E.grown g304 (fun k hk => by injection hk with hk; subst hk; omega)
                  replace hB4 := hB4.grown g304 (by intro h; injection h with h; omega)
                  replace hB11 := hB11.grown g304 (by intro h; injection h with h; omega)
                  replace hB19 := hB19.grown g304 (by intro h; injection h with h; omega)
                  replace hT58 := hT58.grown g304 (by intro h; injection h with h; omega)
                  replace hB231 := hB231.grown g304 (by intro h; injection h with h; omega)
                  replace hT293 := hT293.grown g304 (by intro h; injection h with h; omega)
                  replace hB278 := hB305
                  refine Sq.nil ?_
                  refine Eq.goes (fun _ => ⟨hB4, hB11⟩) ?_
                  refine Gq.one 7 rfl (by kernel_rfl) ?_
                  refine Sq.store one60 .plain rfl rfl rfl hB231 (by simp) (fun w307 g308 hB309 => ?_)
                  have hs310 := World.grownBy.size g308
                  replace E := E.grown g308 (fun k hk => by injection hk with hk; subst hk; omega)
                  replace hB4 := hB4.grown g308 (by intro h; injection h with h; omega)
                  replace hB11 := hB11.grown g308 (by intro h; injection h with h; omega)
                  replace hB19 := hB19.grown g308 (by intro h; injection h with h; omega)
                  replace hT58 := hT58.grown g308 (by intro h; injection h with h; omega)
                  replace hB278 := hB278.grown g308 (by intro h; injection h with h; omega)
                  replace hT293 := hT293.grown g308 (by intro h; injection h with h; omega)
                  replace hB231 := hB309
                  refine Sq.nil ?_
                  refine Eq.goes (fun h => absurd h (by decide)) ?_
                  refine Gq.done (by kernel_rfl) ?_
                  refine Eq.left _ ⟨b275, b228, _, _, _, _, rfl, hB278, hB231, hT58, hT293, hTab59, hTab294, by omega, E, hB4, hB11, hB19⟩ (.cons rfl (.cons rfl (.cons rfl (.cons rfl (.cons rfl (.cons rfl (.cons rfl (.nil))))))))
            · refine Sq.alloc1 zero60 rfl .plain rfl (fun b311 w312 e313 hB314 hlo315 => ?_)
              have hd316 := Nat.le_trans (Below.size E) hlo315
              have hd317 := Nat.lt_of_lt_of_le hB4.lt hlo315
              have hd318 := Nat.lt_of_lt_of_le hB11.lt hlo315
              have hd319 := Nat.lt_of_lt_of_le hB19.lt hlo315
              have hs320 := Below.size e313
              replace E := E.trans e313
              replace hB4 := hB4.ext e313
              replace hB11 := hB11.ext e313
              replace hB19 := hB19.ext e313
              refine Sq.nil ?_
              refine Eq.goes (fun _ => ⟨hB4, hB11⟩) ?_
              refine Gq.two 1 5 rfl rfl (by kernel_rfl) ?_ ?_
              · have hd329 := hB4.lt
                have hd330 := hB11.lt
                have hd331 := hB19.lt
                have hd332 := hB314.lt
                refine Sq.call fn56 .plain rfl rfl (tableOf_c _ a _ _ (hnx.ext E) (hac.ext E) hv) ?_
                rintro _ w322 ⟨⟨b324, xs325, rfl, hlo326, hT327, hTab328⟩, e323⟩
                have hs333 := Below.size E
                have hs334 := Below.size e323
                replace E := E.trans e323
                replace hB4 := hB4.ext e323
                replace hB11 := hB11.ext e323
                replace hB19 := hB19.ext e323
                replace hB314 := hB314.ext e323
                refine Sq.nil ?_
                refine Eq.goes (fun _ => ⟨hB4, hB11⟩) ?_
                refine Gq.two 3 5 rfl rfl (by kernel_rfl) ?_ ?_
                · have hd343 := hB4.lt
                  have hd344 := hB11.lt
                  have hd345 := hB19.lt
                  have hd346 := hB314.lt
                  have hd347 := hT327.lt
                  refine Sq.call fn56 .plain rfl rfl (tableOf_c _ b _ _ (hnx'.ext E) (hac'.ext E) hv') ?_
                  rintro _ w336 ⟨⟨b338, xs339, rfl, hlo340, hT341, hTab342⟩, e337⟩
                  have hs348 := Below.size E
                  have hs349 := Below.size e337
                  replace E := E.trans e337
                  replace hB4 := hB4.ext e337
                  replace hB11 := hB11.ext e337
                  replace hB19 := hB19.ext e337
                  replace hB314 := hB314.ext e337
                  replace hT327 := hT327.ext e337
                  refine Sq.nil ?_
                  refine Eq.goes (fun _ => ⟨hB4, hB11⟩) ?_
                  refine Gq.one 5 rfl (by kernel_rfl) ?_
                  refine Sq.alloc1 zero60 rfl .plain rfl (fun b350 w351 e352 hB353 hlo354 => ?_)
                  have hd355 := Nat.le_trans (Below.size E) hlo354
                  have hd356 := Nat.lt_of_lt_of_le hB4.lt hlo354
                  have hd357 := Nat.lt_of_lt_of_le hB11.lt hlo354
                  have hd358 := Nat.lt_of_lt_of_le hB19.lt hlo354
                  have hd359 := Nat.lt_of_lt_of_le hB314.lt hlo354
                  have hd360 := Nat.lt_of_lt_of_le hT327.lt hlo354
                  have hd361 := Nat.lt_of_lt_of_le hT341.lt hlo354
                  have hs362 := Below.size e352
                  replace E := E.trans e352
                  replace hB4 := hB4.ext e352
                  replace hB11 := hB11.ext e352
                  replace hB19 := hB19.ext e352
                  replace hB314 := hB314.ext e352
                  replace hT327 := hT327.ext e352
                  replace hT341 := hT341.ext e352
                  refine Sq.nil ?_
                  refine Eq.goes (fun _ => ⟨hB4, hB11⟩) ?_
                  refine Gq.one 6 rfl (by kernel_rfl) ?_
                  refine Sq.store one60 .plain rfl rfl rfl hB314 (by simp) (fun w363 g364 hB365 => ?_)
                  have hs366 := World.grownBy.size g364
                  replace E := E.grown g364 (fun k hk => by injection hk with hk; subst hk; omega)
                  replace hB4 := hB4.grown g364 (by intro h; injection h with h; omega)
                  replace hB11 := hB11.grown g364 (by intro h; injection h with h; omega)
                  replace hB19 := hB19.grown g364 (by intro h; injection h with h; omega)
                  replace hT327 := hT327.grown g364 (by intro h; injection h with h; omega)
                  replace hT341 := hT341.grown g364 (by intro h; injection h with h; omega)
                  replace hB353 := hB353.grown g364 (by intro h; injection h with h; omega)
                  replace hB314 := hB365
                  refine Sq.nil ?_
                  refine Eq.goes (fun _ => ⟨hB4, hB11⟩) ?_
                  refine Gq.one 7 rfl (by kernel_rfl) ?_
                  refine Sq.store one60 .plain rfl rfl rfl hB353 (by simp) (fun w367 g368 hB369 => ?_)
                  have hs370 := World.grownBy.size g368
                  replace E := E.grown g368 (fun k hk => by injection hk with hk; subst hk; omega)
                  replace hB4 := hB4.grown g368 (by intro h; injection h with h; omega)
                  replace hB11 := hB11.grown g368 (by intro h; injection h with h; omega)
                  replace hB19 := hB19.grown g368 (by intro h; injection h with h; omega)
                  replace hB314 := hB314.grown g368 (by intro h; injection h with h; omega)
                  replace hT327 := hT327.grown g368 (by intro h; injection h with h; omega)
                  replace hT341 := hT341.grown g368 (by intro h; injection h with h; omega)
                  replace hB353 := hB369
                  refine Sq.nil ?_
                  refine Eq.goes (fun h => absurd h (by decide)) ?_
                  refine Gq.done (by kernel_rfl) ?_
                  refine Eq.left _ ⟨b311, b350, _, _, _, _, rfl, hB314, hB353, hT327, hT341, hTab328, hTab342, by omega, E, hB4, hB11, hB19⟩ (.cons rfl (.cons rfl (.cons rfl (.cons rfl (.cons rfl (.cons rfl (.cons rfl (.nil))))))))
                · refine Sq.alloc1 zero60 rfl .plain rfl (fun b371 w372 e373 hB374 hlo375 => ?_)
                  have hd376 := Nat.le_trans (Below.size E) hlo375
                  have hd377 := Nat.lt_of_lt_of_le hB4.lt hlo375
                  have hd378 := Nat.lt_of_lt_of_le hB11.lt hlo375
                  have hd379 := Nat.lt_of_lt_of_le hB19.lt hlo375
                  have hd380 := Nat.lt_of_lt_of_le hB314.lt hlo375
                  have hd381 := Nat.lt_of_lt_of_le hT327.lt hlo375
                  have hs382 := Below.size e373
                  replace E := E.trans e373
                  replace hB4 := hB4.ext e373
                  replace hB11 := hB11.ext e373
                  replace hB19 := hB19.ext e373
                  replace hB314 := hB314.ext e373
                  replace hT327 := hT327.ext e373
                  refine Sq.nil ?_
                  refine Eq.goes (fun _ => ⟨hB4, hB11⟩) ?_
                  refine Gq.one 3 rfl (by kernel_rfl) ?_
                  have hd391 := hB4.lt
                  have hd392 := hB11.lt
                  have hd393 := hB19.lt
                  have hd394 := hB314.lt
                  have hd395 := hT327.lt
                  have hd396 := hB374.lt
                  refine Sq.call fn56 .plain rfl rfl (tableOf_c _ b _ _ (hnx'.ext E) (hac'.ext E) hv') ?_
                  rintro _ w384 ⟨⟨b386, xs387, rfl, hlo388, hT389, hTab390⟩, e385⟩
                  have hs397 := Below.size E
                  have hs398 := Below.size e385
                  replace E := E.trans e385
                  replace hB4 := hB4.ext e385
                  replace hB11 := hB11.ext e385
                  replace hB19 := hB19.ext e385
                  replace hB314 := hB314.ext e385
                  replace hT327 := hT327.ext e385
                  replace hB374 := hB374.ext e385
                  refine Sq.nil ?_
                  refine Eq.goes (fun _ => ⟨hB4, hB11⟩) ?_
                  refine Gq.one 6 rfl (by kernel_rfl) ?_
                  refine Sq.store one60 .plain rfl rfl rfl hB314 (by simp) (fun w399 g400 hB401 => ?_)
                  have hs402 := World.grownBy.size g400
                  replace E := E.grown g400 (fun k hk => by injection hk with hk; subst hk; omega)
                  replace hB4 := hB4.grown g400 (by intro h; injection h with h; omega)
                  replace hB11 := hB11.grown g400 (by intro h; injection h with h; omega)
                  replace hB19 := hB19.grown g400 (by intro h; injection h with h; omega)
                  replace hT327 := hT327.grown g400 (by intro h; injection h with h; omega)
                  replace hB374 := hB374.grown g400 (by intro h; injection h with h; omega)
                  replace hT389 := hT389.grown g400 (by intro h; injection h with h; omega)
                  replace hB314 := hB401
                  refine Sq.nil ?_
                  refine Eq.goes (fun _ => ⟨hB4, hB11⟩) ?_
                  refine Gq.one 7 rfl (by kernel_rfl) ?_
                  refine Sq.store one60 .plain rfl rfl rfl hB374 (by simp) (fun w403 g404 hB405 => ?_)
                  have hs406 := World.grownBy.size g404
                  replace E := E.grown g404 (fun k hk => by injection hk with hk; subst hk; omega)
                  replace hB4 := hB4.grown g404 (by intro h; injection h with h; omega)
                  replace hB11 := hB11.grown g404 (by intro h; injection h with h; omega)
                  replace hB19 := hB19.grown g404 (by intro h; injection h with h; omega)
                  replace hB314 := hB314.grown g404 (by intro h; injection h with h; omega)
                  replace hT327 := hT327.grown g404 (by intro h; injection h with h; omega)
                  replace hT389 := hT389.grown g404 (by intro h; injection h with h; omega)
                  replace hB374 := hB405
                  refine Sq.nil ?_
                  refine Eq.goes (fun h => absurd h (by decide)) ?_
                  refine Gq.done (by kernel_rfl) ?_
                  refine Eq.left _ ⟨b311, b371, _, _, _, _, rfl, hB314, hB374, hT327, hT389, hTab328, hTab390, by omega, E, hB4, hB11, hB19⟩ (.cons rfl (.cons rfl (.cons rfl (.cons rfl (.cons rfl (.cons rfl (.cons rfl (.nil))))))))
              · refine Sq.alloc1 zero60 rfl .plain rfl (fun b407 w408 e409 hB410 hlo411 => ?_)
                have hd412 := Nat.le_trans (Below.size E) hlo411
                have hd413 := Nat.lt_of_lt_of_le hB4.lt hlo411
                have hd414 := Nat.lt_of_lt_of_le hB11.lt hlo411
                have hd415 := Nat.lt_of_lt_of_le hB19.lt hlo411
                have hd416 := Nat.lt_of_lt_of_le hB314.lt hlo411
                have hs417 := Below.size e409
                replace E := E.trans e409
                replace hB4 := hB4.ext e409
                replace hB11 := hB11.ext e409
                replace hB19 := hB19.ext e409
                replace hB314 := hB314.ext e409
                refine Sq.nil ?_
                refine Eq.goes (fun _ => ⟨hB4, hB11⟩) ?_
                refine Gq.one 1 rfl (by kernel_rfl) ?_
                have hd426 := hB4.lt
                have hd427 := hB11.lt
                have hd428 := hB19.lt
                have hd429 := hB314.lt
                have hd430 := hB410.lt
                refine Sq.call fn56 .plain rfl rfl (tableOf_c _ a _ _ (hnx.ext E) (hac.ext E) hv) ?_
                rintro _ w419 ⟨⟨b421, xs422, rfl, hlo423, hT424, hTab425⟩, e420⟩
                have hs431 := Below.size E
                have hs432 := Below.size e420
                replace E := E.trans e420
                replace hB4 := hB4.ext e420
                replace hB11 := hB11.ext e420
                replace hB19 := hB19.ext e420
                replace hB314 := hB314.ext e420
                replace hB410 := hB410.ext e420
                refine Sq.nil ?_
                refine Eq.goes (fun _ => ⟨hB4, hB11⟩) ?_
                refine Gq.one 3 rfl (by kernel_rfl) ?_
                have hd441 := hB4.lt
                have hd442 := hB11.lt
                have hd443 := hB19.lt
                have hd444 := hB314.lt
                have hd445 := hB410.lt
                have hd446 := hT424.lt
                refine Sq.call fn56 .plain rfl rfl (tableOf_c _ b _ _ (hnx'.ext E) (hac'.ext E) hv') ?_
                rintro _ w434 ⟨⟨b436, xs437, rfl, hlo438, hT439, hTab440⟩, e435⟩
                have hs447 := Below.size E
                have hs448 := Below.size e435
                replace E := E.trans e435
                replace hB4 := hB4.ext e435
                replace hB11 := hB11.ext e435
                replace hB19 := hB19.ext e435
                replace hB314 := hB314.ext e435
                replace hB410 := hB410.ext e435
                replace hT424 := hT424.ext e435
                refine Sq.nil ?_
                refine Eq.goes (fun _ => ⟨hB4, hB11⟩) ?_
                refine Gq.one 6 rfl (by kernel_rfl) ?_
                refine Sq.store one60 .plain rfl rfl rfl hB314 (by simp) (fun w449 g450 hB451 => ?_)
                have hs452 := World.grownBy.size g450
                replace E := E.grown g450 (fun k hk => by injection hk with hk; subst hk; omega)
                replace hB4 := hB4.grown g450 (by intro h; injection h with h; omega)
                replace hB11 := hB11.grown g450 (by intro h; injection h with h; omega)
                replace hB19 := hB19.grown g450 (by intro h; injection h with h; omega)
                replace hB410 := hB410.grown g450 (by intro h; injection h with h; omega)
                replace hT424 := hT424.grown g450 (by intro h; injection h with h; omega)
                replace hT439 := hT439.grown g450 (by intro h; injection h with h; omega)
                replace hB314 := hB451
                refine Sq.nil ?_
                refine Eq.goes (fun _ => ⟨hB4, hB11⟩) ?_
                refine Gq.one 7 rfl (by kernel_rfl) ?_
                refine Sq.store one60 .plain rfl rfl rfl hB410 (by simp) (fun w453 g454 hB455 => ?_)
                have hs456 := World.grownBy.size g454
                replace E := E.grown g454 (fun k hk => by injection hk with hk; subst hk; omega)
                replace hB4 := hB4.grown g454 (by intro h; injection h with h; omega)
                replace hB11 := hB11.grown g454 (by intro h; injection h with h; omega)
                replace hB19 := hB19.grown g454 (by intro h; injection h with h; omega)
                replace hB314 := hB314.grown g454 (by intro h; injection h with h; omega)
                replace hT424 := hT424.grown g454 (by intro h; injection h with h; omega)
                replace hT439 := hT439.grown g454 (by intro h; injection h with h; omega)
                replace hB410 := hB455
                refine Sq.nil ?_
                refine Eq.goes (fun h => absurd h (by decide)) ?_
                refine Gq.done (by kernel_rfl) ?_
                refine Eq.left _ ⟨b311, b407, _, _, _, _, rfl, hB314, hB410, hT424, hT439, hTab425, hTab440, by omega, E, hB4, hB11, hB19⟩ (.cons rfl (.cons rfl (.cons rfl (.cons rfl (.cons rfl (.cons rfl (.cons rfl (.nil))))))))
            · refine Sq.alloc1 zero60 rfl .plain rfl (fun b457 w458 e459 hB460 hlo461 => ?_)
              have hd462 := Nat.le_trans (Below.size E) hlo461
              have hd463 := Nat.lt_of_lt_of_le hB4.lt hlo461
              have hd464 := Nat.lt_of_lt_of_le hB11.lt hlo461
              have hd465 := Nat.lt_of_lt_of_le hB19.lt hlo461
              have hs466 := Below.size e459
              replace E := E.trans e459
              replace hB4 := hB4.ext e459
              replace hB11 := hB11.ext e459
              replace hB19 := hB19.ext e459
              refine Sq.nil ?_
              refine Eq.goes (fun _ => ⟨hB4, hB11⟩) ?_
              refine Gq.two 1 4 rfl rfl (by kernel_rfl) ?_ ?_
              · have hd475 := hB4.lt
                have hd476 := hB11.lt
                have hd477 := hB19.lt
                have hd478 := hB460.lt
                refine Sq.call fn56 .plain rfl rfl (tableOf_c _ a _ _ (hnx.ext E) (hac.ext E) hv) ?_
                rintro _ w468 ⟨⟨b470, xs471, rfl, hlo472, hT473, hTab474⟩, e469⟩
                have hs479 := Below.size E
                have hs480 := Below.size e469
                replace E := E.trans e469
                replace hB4 := hB4.ext e469
                replace hB11 := hB11.ext e469
                replace hB19 := hB19.ext e469
                replace hB460 := hB460.ext e469
                refine Sq.nil ?_
                refine Eq.goes (fun _ => ⟨hB4, hB11⟩) ?_
                refine Gq.two 3 4 rfl rfl (by kernel_rfl) ?_ ?_
                · have hd489 := hB4.lt
                  have hd490 := hB11.lt
                  have hd491 := hB19.lt
                  have hd492 := hB460.lt
                  have hd493 := hT473.lt
                  refine Sq.call fn56 .plain rfl rfl (tableOf_c _ b _ _ (hnx'.ext E) (hac'.ext E) hv') ?_
                  rintro _ w482 ⟨⟨b484, xs485, rfl, hlo486, hT487, hTab488⟩, e483⟩
                  have hs494 := Below.size E
                  have hs495 := Below.size e483
                  replace E := E.trans e483
                  replace hB4 := hB4.ext e483
                  replace hB11 := hB11.ext e483
                  replace hB19 := hB19.ext e483
                  replace hB460 := hB460.ext e483
                  replace hT473 := hT473.ext e483
                  refine Sq.nil ?_
                  refine Eq.goes (fun _ => ⟨hB4, hB11⟩) ?_
                  refine Gq.one 4 rfl (by kernel_rfl) ?_
                  refine Sq.alloc1 zero60 rfl .plain rfl (fun b496 w497 e498 hB499 hlo500 => ?_)
                  have hd501 := Nat.le_trans (Below.size E) hlo500
                  have hd502 := Nat.lt_of_lt_of_le hB4.lt hlo500
                  have hd503 := Nat.lt_of_lt_of_le hB11.lt hlo500
                  have hd504 := Nat.lt_of_lt_of_le hB19.lt hlo500
                  have hd505 := Nat.lt_of_lt_of_le hB460.lt hlo500
                  have hd506 := Nat.lt_of_lt_of_le hT473.lt hlo500
                  have hd507 := Nat.lt_of_lt_of_le hT487.lt hlo500
                  have hs508 := Below.size e498
                  replace E := E.trans e498
                  replace hB4 := hB4.ext e498
                  replace hB11 := hB11.ext e498
                  replace hB19 := hB19.ext e498
                  replace hB460 := hB460.ext e498
                  replace hT473 := hT473.ext e498
                  replace hT487 := hT487.ext e498
                  refine Sq.nil ?_
                  refine Eq.goes (fun _ => ⟨hB4, hB11⟩) ?_
                  refine Gq.one 6 rfl (by kernel_rfl) ?_
                  refine Sq.store one60 .plain rfl rfl rfl hB499 (by simp) (fun w509 g510 hB511 => ?_)
                  have hs512 := World.grownBy.size g510
                  replace E := E.grown g510 (fun k hk => by injection hk with hk; subst hk; omega)
                  replace hB4 := hB4.grown g510 (by intro h; injection h with h; omega)
                  replace hB11 := hB11.grown g510 (by intro h; injection h with h; omega)
                  replace hB19 := hB19.grown g510 (by intro h; injection h with h; omega)
                  replace hB460 := hB460.grown g510 (by intro h; injection h with h; omega)
                  replace hT473 := hT473.grown g510 (by intro h; injection h with h; omega)
                  replace hT487 := hT487.grown g510 (by intro h; injection h with h; omega)
                  replace hB499 := hB511
                  refine Sq.nil ?_
                  refine Eq.goes (fun _ => ⟨hB4, hB11⟩) ?_
                  refine Gq.one 7 rfl (by kernel_rfl) ?_
                  refine Sq.store one60 .plain rfl rfl rfl hB460 (by simp) (fun w513 g514 hB515 => ?_)
                  have hs516 := World.grownBy.size g514
                  replace E := E.grown g514 (fun k hk => by injection hk with hk; subst hk; omega)
                  replace hB4 := hB4.grown g514 (by intro h; injection h with h; omega)
                  replace hB11 := hB11.grown g514 (by intro h; injection h with h; omega)
                  replace hB19 := hB19.grown g514 (by intro h; injection h with h; omega)
                  replace hT473 := hT473.grown g514 (by intro h; injection h with h; omega)
                  replace hT487 := hT487.grown g514 (by intro h; injection h with h; omega)
                  replace hB499 := hB499.grown g514 (by intro h; injection h with h; omega)
                  replace hB460 := hB515
                  refine Sq.nil ?_
                  refine Eq.goes (fun h => absurd h (by decide)) ?_
                  refine Gq.done (by kernel_rfl) ?_
                  refine Eq.left _ ⟨b496, b457, _, _, _, _, rfl, hB499, hB460, hT473, hT487, hTab474, hTab488, by omega, E, hB4, hB11, hB19⟩ (.cons rfl (.cons rfl (.cons rfl (.cons rfl (.cons rfl (.cons rfl (.cons rfl (.nil))))))))
                · refine Sq.alloc1 zero60 rfl .plain rfl (fun b517 w518 e519 hB520 hlo521 => ?_)
                  have hd522 := Nat.le_trans (Below.size E) hlo521
                  have hd523 := Nat.lt_of_lt_of_le hB4.lt hlo521
                  have hd524 := Nat.lt_of_lt_of_le hB11.lt hlo521
                  have hd525 := Nat.lt_of_lt_of_le hB19.lt hlo521
                  have hd526 := Nat.lt_of_lt_of_le hB460.lt hlo521
                  have hd527 := Nat.lt_of_lt_of_le hT473.lt hlo521
                  have hs528 := Below.size e519
                  replace E := E.trans e519
                  replace hB4 := hB4.ext e519
                  replace hB11 := hB11.ext e519
                  replace hB19 := hB19.ext e519
                  replace hB460 := hB460.ext e519
                  replace hT473 := hT473.ext e519
                  refine Sq.nil ?_
                  refine Eq.goes (fun _ => ⟨hB4, hB11⟩) ?_
                  refine Gq.one 3 rfl (by kernel_rfl) ?_
                  have hd537 := hB4.lt
                  have hd538 := hB11.lt
                  have hd539 := hB19.lt
                  have hd540 := hB460.lt
                  have hd541 := hT473.lt
                  have hd542 := hB520.lt
                  refine Sq.call fn56 .plain rfl rfl (tableOf_c _ b _ _ (hnx'.ext E) (hac'.ext E) hv') ?_
                  rintro _ w530 ⟨⟨b532, xs533, rfl, hlo534, hT535, hTab536⟩, e531⟩
                  have hs543 := Below.size E
                  have hs544 := Below.size e531
                  replace E := E.trans e531
                  replace hB4 := hB4.ext e531
                  replace hB11 := hB11.ext e531
                  replace hB19 := hB19.ext e531
                  replace hB460 := hB460.ext e531
                  replace hT473 := hT473.ext e531
                  replace hB520 := hB520.ext e531
                  refine Sq.nil ?_
                  refine Eq.goes (fun _ => ⟨hB4, hB11⟩) ?_
                  refine Gq.one 6 rfl (by kernel_rfl) ?_
                  refine Sq.store one60 .plain rfl rfl rfl hB520 (by simp) (fun w545 g546 hB547 => ?_)
                  have hs548 := World.grownBy.size g546
                  replace E := E.grown g546 (fun k hk => by injection hk with hk; subst hk; omega)
                  replace hB4 := hB4.grown g546 (by intro h; injection h with h; omega)
                  replace hB11 := hB11.grown g546 (by intro h; injection h with h; omega)
                  replace hB19 := hB19.grown g546 (by intro h; injection h with h; omega)
                  replace hB460 := hB460.grown g546 (by intro h; injection h with h; omega)
                  replace hT473 := hT473.grown g546 (by intro h; injection h with h; omega)
                  replace hT535 := hT535.grown g546 (by intro h; injection h with h; omega)
                  replace hB520 := hB547
                  refine Sq.nil ?_
                  refine Eq.goes (fun _ => ⟨hB4, hB11⟩) ?_
                  refine Gq.one 7 rfl (by kernel_rfl) ?_
                  refine Sq.store one60 .plain rfl rfl rfl hB460 (by simp) (fun w549 g550 hB551 => ?_)
                  have hs552 := World.grownBy.size g550
                  replace E := E.grown g550 (fun k hk => by injection hk with hk; subst hk; omega)
                  replace hB4 := hB4.grown g550 (by intro h; injection h with h; omega)
                  replace hB11 := hB11.grown g550 (by intro h; injection h with h; omega)
                  replace hB19 := hB19.grown g550 (by intro h; injection h with h; omega)
                  replace hT473 := hT473.grown g550 (by intro h; injection h with h; omega)
                  replace hB520 := hB520.grown g550 (by intro h; injection h with h; omega)
                  replace hT535 := hT535.grown g550 (by intro h; injection h with h; omega)
                  replace hB460 := hB551
                  refine Sq.nil ?_
                  refine Eq.goes (fun h => absurd h (by decide)) ?_
                  refine Gq.done (by kernel_rfl) ?_
                  refine Eq.left _ ⟨b517, b457, _, _, _, _, rfl, hB520, hB460, hT473, hT535, hTab474, hTab536, by omega, E, hB4, hB11, hB19⟩ (.cons rfl (.cons rfl (.cons rfl (.cons rfl (.cons rfl (.cons rfl (.cons rfl (.nil))))))))
              · refine Sq.alloc1 zero60 rfl .plain rfl (fun b553 w554 e555 hB556 hlo557 => ?_)
                have hd558 := Nat.le_trans (Below.size E) hlo557
                have hd559 := Nat.lt_of_lt_of_le hB4.lt hlo557
                have hd560 := Nat.lt_of_lt_of_le hB11.lt hlo557
                have hd561 := Nat.lt_of_lt_of_le hB19.lt hlo557
                have hd562 := Nat.lt_of_lt_of_le hB460.lt hlo557
                have hs563 := Below.size e555
                replace E := E.trans e555
                replace hB4 := hB4.ext e555
                replace hB11 := hB11.ext e555
                replace hB19 := hB19.ext e555
                replace hB460 := hB460.ext e555
                refine Sq.nil ?_
                refine Eq.goes (fun _ => ⟨hB4, hB11⟩) ?_
                refine Gq.one 1 rfl (by kernel_rfl) ?_
                have hd572 := hB4.lt
                have hd573 := hB11.lt
                have hd574 := hB19.lt
                have hd575 := hB460.lt
                have hd576 := hB556.lt
                refine Sq.call fn56 .plain rfl rfl (tableOf_c _ a _ _ (hnx.ext E) (hac.ext E) hv) ?_
                rintro _ w565 ⟨⟨b567, xs568, rfl, hlo569, hT570, hTab571⟩, e566⟩
                have hs577 := Below.size E
                have hs578 := Below.size e566
                replace E := E.trans e566
                replace hB4 := hB4.ext e566
                replace hB11 := hB11.ext e566
                replace hB19 := hB19.ext e566
                replace hB460 := hB460.ext e566
                replace hB556 := hB556.ext e566
                refine Sq.nil ?_
                refine Eq.goes (fun _ => ⟨hB4, hB11⟩) ?_
                refine Gq.one 3 rfl (by kernel_rfl) ?_
                have hd587 := hB4.lt
                have hd588 := hB11.lt
                have hd589 := hB19.lt
                have hd590 := hB460.lt
                have hd591 := hB556.lt
                have hd592 := hT570.lt
                refine Sq.call fn56 .plain rfl rfl (tableOf_c _ b _ _ (hnx'.ext E) (hac'.ext E) hv') ?_
                rintro _ w580 ⟨⟨b582, xs583, rfl, hlo584, hT585, hTab586⟩, e581⟩
                have hs593 := Below.size E
                have hs594 := Below.size e581
                replace E := E.trans e581
                replace hB4 := hB4.ext e581
                replace hB11 := hB11.ext e581
                replace hB19 := hB19.ext e581
                replace hB460 := hB460.ext e581
                replace hB556 := hB556.ext e581
                replace hT570 := hT570.ext e581
                refine Sq.nil ?_
                refine Eq.goes (fun _ => ⟨hB4, hB11⟩) ?_
                refine Gq.one 6 rfl (by kernel_rfl) ?_
                refine Sq.store one60 .plain rfl rfl rfl hB556 (by simp) (fun w595 g596 hB597 => ?_)
                have hs598 := World.grownBy.size g596
                replace E := E.grown g596 (fun k hk => by injection hk with hk; subst hk; omega)
                replace hB4 := hB4.grown g596 (by intro h; injection h with h; omega)
                replace hB11 := hB11.grown g596 (by intro h; injection h with h; omega)
                replace hB19 := hB19.grown g596 (by intro h; injection h with h; omega)
                replace hB460 := hB460.grown g596 (by intro h; injection h with h; omega)
                replace hT570 := hT570.grown g596 (by intro h; injection h with h; omega)
                replace hT585 := hT585.grown g596 (by intro h; injection h with h; omega)
                replace hB556 := hB597
                refine Sq.nil ?_
                refine Eq.goes (fun _ => ⟨hB4, hB11⟩) ?_
                refine Gq.one 7 rfl (by kernel_rfl) ?_
                refine Sq.store one60 .plain rfl rfl rfl hB460 (by simp) (fun w599 g600 hB601 => ?_)
                have hs602 := World.grownBy.size g600
                replace E := E.grown g600 (fun k hk => by injection hk with hk; subst hk; omega)
                replace hB4 := hB4.grown g600 (by intro h; injection h with h; omega)
                replace hB11 := hB11.grown g600 (by intro h; injection h with h; omega)
                replace hB19 := hB19.grown g600 (by intro h; injection h with h; omega)
                replace hB556 := hB556.grown g600 (by intro h; injection h with h; omega)
                replace hT570 := hT570.grown g600 (by intro h; injection h with h; omega)
                replace hT585 := hT585.grown g600 (by intro h; injection h with h; omega)
                replace hB460 := hB601
                refine Sq.nil ?_
                refine Eq.goes (fun h => absurd h (by decide)) ?_
                refine Gq.done (by kernel_rfl) ?_
                refine Eq.left _ ⟨b553, b457, _, _, _, _, rfl, hB556, hB460, hT570, hT585, hTab571, hTab586, by omega, E, hB4, hB11, hB19⟩ (.cons rfl (.cons rfl (.cons rfl (.cons rfl (.cons rfl (.cons rfl (.cons rfl (.nil))))))))
          · rintro ls wc3 ⟨c8, c9, t1, t2, xs, ys0, rfl, hP1, hP2, hT1, hT2, hTab, hTab', hbb, E, hB4, hB11, hB19⟩
            have hs603 := Below.size E
            have hpal := prod_al hv hv'
            refine Eq.next ?_
            refine Cq.seq ?_
            refine Cq.region ?_
            refine Sq.loadB one60 .plain rfl rfl hP2 rfl ?_
            refine Sq.len .plain rfl und60 rfl ?_
            refine Sq.alloc1 zero3 rfl .plain rfl (fun b604 w605 e606 hB607 hlo608 => ?_)
            have hd609 := Nat.le_trans (Below.size E) hlo608
            have hd610 := Nat.lt_of_lt_of_le hB4.lt hlo608
            have hd611 := Nat.lt_of_lt_of_le hB11.lt hlo608
            have hd612 := Nat.lt_of_lt_of_le hB19.lt hlo608
            have hd613 := Nat.lt_of_lt_of_le hP1.lt hlo608
            have hd614 := Nat.lt_of_lt_of_le hP2.lt hlo608
            have hd615 := Nat.lt_of_lt_of_le hT1.lt hlo608
            have hd616 := Nat.lt_of_lt_of_le hT2.lt hlo608
            have hs617 := Below.size e606
            replace E := E.trans e606
            replace hB4 := hB4.ext e606
            replace hB11 := hB11.ext e606
            replace hB19 := hB19.ext e606
            replace hP1 := hP1.ext e606
            replace hP2 := hP2.ext e606
            replace hT1 := hT1.ext e606
            replace hT2 := hT2.ext e606
            refine Sq.store one3 .plain rfl rfl rfl hB607 (by simp) (fun w618 g619 hB620 => ?_)
            have hs621 := World.grownBy.size g619
            replace E := E.grown g619 (fun k hk => by injection hk with hk; subst hk; omega)
            replace hB4 := hB4.grown g619 (by intro h; injection h with h; omega)
            replace hB11 := hB11.grown g619 (by intro h; injection h with h; omega)
            replace hB19 := hB19.grown g619 (by intro h; injection h with h; omega)
            replace hP1 := hP1.grown g619 (by intro h; injection h with h; omega)
            replace hP2 := hP2.grown g619 (by intro h; injection h with h; omega)
            replace hT1 := hT1.grown g619 (by intro h; injection h with h; omega)
            replace hT2 := hT2.grown g619 (by intro h; injection h with h; omega)
            replace hB607 := hB620
            refine Sq.nil ?_
            refine Eq.next ?_
            refine Cq.seq ?_
            refine Cq.region ?_
            refine Sq.fieldAddr fld27_0 .plain rfl rfl ?_
            refine Sq.loadB one3 .plain rfl rfl hB4 rfl ?_
            refine Sq.fieldAddr fld27_0 .plain rfl rfl ?_
            refine Sq.loadB one3 .plain rfl rfl hB11 rfl ?_
            refine Sq.or .plain rfl rfl rfl (by have := (validA_spec.1 hv).1; have := (validA_spec.1 hv').1; omega) ?_
            refine Sq.build st27 rfl rfl .plain rfl rfl (one_cons rfl one_nil) rfl ?_
            refine Sq.alloc zero27 .plain rfl (fun b622 w623 e624 hB625 hlo626 => ?_)
            have hd627 := Nat.le_trans (Below.size E) hlo626
            have hd628 := Nat.lt_of_lt_of_le hB4.lt hlo626
            have hd629 := Nat.lt_of_lt_of_le hB11.lt hlo626
            have hd630 := Nat.lt_of_lt_of_le hB19.lt hlo626
            have hd631 := Nat.lt_of_lt_of_le hP1.lt hlo626
            have hd632 := Nat.lt_of_lt_of_le hP2.lt hlo626
            have hd633 := Nat.lt_of_lt_of_le hT1.lt hlo626
            have hd634 := Nat.lt_of_lt_of_le hT2.lt hlo626
            have hd635 := Nat.lt_of_lt_of_le hB607.lt hlo626
            have hs636 := Below.size e624
            replace E := E.trans e624
            replace hB4 := hB4.ext e624
            replace hB11 := hB11.ext e624
            replace hB19 := hB19.ext e624
            replace hP1 := hP1.ext e624
            replace hP2 := hP2.ext e624
            replace hT1 := hT1.ext e624
            replace hT2 := hT2.ext e624
            replace hB607 := hB607.ext e624
            refine Sq.storeAgg agg27 .plain rfl rfl (one_cons rfl (one_cons rfl (one_cons rfl one_nil))) hB625 rfl rfl (fun w637 g638 hB639 => ?_)
            have hs640 := World.grownBy.size g638
            replace E := E.grown g638 (fun k hk => by injection hk with hk; subst hk; omega)
            replace hB4 := hB4.grown g638 (by intro h; injection h with h; omega)
            replace hB11 := hB11.grown g638 (by intro h; injection h with h; omega)
            replace hB19 := hB19.grown g638 (by intro h; injection h with h; omega)
            replace hP1 := hP1.grown g638 (by intro h; injection h with h; omega)
            replace hP2 := hP2.grown g638 (by intro h; injection h with h; omega)
            replace hT1 := hT1.grown g638 (by intro h; injection h with h; omega)
            replace hT2 := hT2.grown g638 (by intro h; injection h with h; omega)
            replace hB607 := hB607.grown g638 (by intro h; injection h with h; omega)
            replace hB625 := hB639
            refine Sq.nil ?_
            refine Eq.next ?_
            refine Cq.seq ?_
            refine Cq.region ?_
            refine Sq.fieldAddr fld27_0 .plain rfl rfl ?_
            refine Sq.loadB one3 .plain rfl rfl hB625 rfl ?_
            have hd645 := hB4.lt
            have hd646 := hB11.lt
            have hd647 := hB19.lt
            have hd648 := hP1.lt
            have hd649 := hP2.lt
            have hd650 := hT1.lt
            have hd651 := hT2.lt
            have hd652 := hB607.lt
            have hd653 := hB625.lt
            refine Sq.call fn58 .plain rfl rfl (lettersOf_c (orI a.al b.al) (by omega) _) ?_
            rintro v641 w642 ⟨hl644, e643⟩
            have hs654 := Below.size E
            have hs655 := Below.size e643
            replace E := E.trans e643
            replace hB4 := hB4.ext e643
            replace hB11 := hB11.ext e643
            replace hB19 := hB19.ext e643
            replace hP1 := hP1.ext e643
            replace hP2 := hP2.ext e643
            replace hT1 := hT1.ext e643
            replace hT2 := hT2.ext e643
            replace hB607 := hB607.ext e643
            replace hB625 := hB625.ext e643
            refine Sq.makeFunc .plain rfl rfl ?_
            have hd664 := hB4.lt
            have hd665 := hB11.lt
            have hd666 := hB19.lt
            have hd667 := hP1.lt
            have hd668 := hP2.lt
            have hd669 := hT1.lt
            have hd670 := hT2.lt
            have hd671 := hB607.lt
            have hd672 := hB625.lt
            have hlet := letters_len6 (orI a.al b.al)
            refine Sq.call fn57 .plain rfl rfl (numbered_c _ (fP a b) 0 (letters (orI a.al b.al)) _ _ 12 (fun q => InP a b q) (by omega) (Own.row hl644) (by omega) (fun x hx => ⟨(mem_letters hx).1, (mem_letters hx).2.1⟩) (zero_inP hv hv') (fun q hq x hx => fP_in hv hv' hq ⟨(mem_letters hx).1, (mem_letters hx).2.1⟩) (fun i => Nat.le_trans (fP_bfs_len hv hv' _ i) (by omega)) ⟨59, _, [Value.pointer (some ⟨c8, 0, none⟩), Value.pointer (some ⟨b604, 0, none⟩), Value.pointer (some ⟨c9, 0, none⟩)], rfl, fn59, fun w q y0 hx hq hxx => prod1_c w q y0 a b _ _ _ _ _ _ _ (hP1.ext hx) (hB607.ext hx) (hP2.ext hx) (hT1.ext hx) (hT2.ext hx) hTab hTab' hv hv' hq hxx⟩) ?_
            rintro _ w657 ⟨⟨nv659, xv660, rfl, hn661, hx662⟩, e658⟩
            have hs673 := Below.size E
            have hs674 := Below.size e658
            replace E := E.trans e658
            replace hB4 := hB4.ext e658
            replace hB11 := hB11.ext e658
            replace hB19 := hB19.ext e658
            replace hP1 := hP1.ext e658
            replace hP2 := hP2.ext e658
            replace hT1 := hT1.ext e658
            replace hT2 := hT2.ext e658
            replace hB607 := hB607.ext e658
            replace hB625 := hB625.ext e658
            replace hl644 := hl644.ext e658
            by_cases hl663 : ((((ord (fP a b) 0 (letters (orI a.al b.al))).length : Nat) : Int) ≤ 12)
            · rw [if_pos hl663] at hn661 hx662
              refine Sq.move .plain rfl rfl ?_
              refine Sq.extract .plain rfl rfl rfl ?_
              refine Sq.extract .plain rfl rfl rfl ?_
              refine Sq.extract .plain rfl rfl rfl ?_
              refine Sq.isT (hl663) ?_
              refine Sq.assign .plain rfl rfl ?_
              refine Sq.assign .plain rfl rfl ?_
              refine Sq.assign .plain rfl rfl ?_
              refine Sq.nil ?_
              refine Eq.next ?_
              refine Cq.seq ?_
              refine Cq.seq ?_
              refine Cq.region ?_
              refine Sq.move .plain rfl rfl ?_
              refine Sq.notT .plain rfl rfl ?_
              refine Sq.nil ?_
              refine Eq.next ?_
              refine Cq.els rfl ?_
              refine Cq.skip ?_
              refine Eq.next ?_
              refine Cq.seq ?_
              refine Cq.region ?_
              refine Sq.move .plain rfl rfl ?_
              refine Sq.fieldAddr fld27_1 .plain rfl rfl ?_
              refine Sq.store one22 .plain rfl rfl (Rows.one (OwnRows.rows hx662)) hB625 (by simp) (fun w675 g676 hB677 => ?_)
              have hs678 := World.grownBy.size g676
              replace E := E.grown g676 (fun k hk => by injection hk with hk; subst hk; omega)
              replace hB4 := hB4.grown g676 (by intro h; injection h with h; omega)
              replace hB11 := hB11.grown g676 (by intro h; injection h with h; omega)
              replace hB19 := hB19.grown g676 (by intro h; injection h with h; omega)
              replace hP1 := hP1.grown g676 (by intro h; injection h with h; omega)
              replace hP2 := hP2.grown g676 (by intro h; injection h with h; omega)
              replace hT1 := hT1.grown g676 (by intro h; injection h with h; omega)
              replace hT2 := hT2.grown g676 (by intro h; injection h with h; omega)
              replace hB607 := hB607.grown g676 (by intro h; injection h with h; omega)
              replace hl644 := hl644.stored g676 hB625 (by decide)
              replace hn661 := hn661.stored g676 hB625 (by decide)
              replace hx662 := hx662.stored g676 hB625 (by decide) (by decide)
              replace hB625 := hB677
              refine Sq.nil ?_
              refine Eq.next ?_
              refine Cq.seq ?_
              refine Cq.seq ?_
              refine Cq.region ?_
              refine Sq.move .plain rfl rfl ?_
              refine Sq.lenInts (Own.row hn661) .plain rfl und52 rfl ?_
              refine Sq.move .plain rfl rfl ?_
              refine Sq.nil ?_
              refine Eq.next ?_
              refine Cq.block ?_
              have hz := zero_in hv'
              have hz2 := (validA_spec.1 hv').2
              have hz1 := (validA_spec.1 hv).2
              have h144 := le144 hv hv'
              have hall := ord_all (f := fP a b) (s := 0) (L := letters (orI a.al b.al)) (P := InP a b) (zero_inP hv hv') (fun q hq x hx => fP_in hv hv' hq ⟨(mem_letters hx).1, (mem_letters hx).2.1⟩)
              refine Cq.loop (fun nn w ls => ∃ (i : Int), ∃ (acv : Value), ∃ (ys : List Bool), ls = [(2, Value.int .i64 k), (3, Value.pointer (some ⟨b1, 0, none⟩)), (4, Value.pointer (some ⟨b8, 0, none⟩)), (6, Value.pointer (some ⟨b16, 0, none⟩)), (10, Value.pointer (some ⟨b604, 0, none⟩)), (11, Value.pointer (some ⟨b622, 0, none⟩)), (62, nv659), (63, Value.int .i64 ((List.length (ord (fP a b) 0 (letters (orI a.al b.al))) : Int))), (64, Value.int .i64 i)] ∧ (0 ≤ i ∧ i ≤ (ord (fP a b) 0 (letters (orI a.al b.al))).length) ∧ Blk w b622 27 [Value.int .i64 (orI a.al b.al), xv660, acv] ∧ Own w w0.heap.size 4 acv (ys.map Value.bool) ∧ ys = ((ord (fP a b) 0 (letters (orI a.al b.al))).take i.toNat).map (accP a b k) ∧ Ext w0 w ∧ Blk w b1 27 [Value.int .i64 a.al, nx, ac] ∧ Blk w b8 27 [Value.int .i64 b.al, nx', ac'] ∧ Blk w b16 27 [Value.int .i64 0, Value.slice none 0 0, Value.slice none 0 0] ∧ Blk w b604 3 [Value.int .i64 (List.length b.next : Int)] ∧ OwnRows w w642.heap.size w657.heap.size 52 3 xv660 ((ord (fP a b) 0 (letters (orI a.al b.al))).map (rowAt (fP a b) (letters (orI a.al b.al)) (ord (fP a b) 0 (letters (orI a.al b.al))))) ∧ Own w w642.heap.size 3 nv659 ((ord (fP a b) 0 (letters (orI a.al b.al))).map (Value.int .i64)) ∧ nn = (((ord (fP a b) 0 (letters (orI a.al b.al))).length : Int) - i).toNat) _ _ ⟨0, _, [], rfl, by omega, hB625, Own.nil _ _ _, rfl, E, hB4, hB11, hB19, hB607, hx662, hn661, rfl⟩ (.cons rfl (.cons rfl (.cons rfl (.cons rfl (.cons rfl (.cons rfl (.cons rfl (.cons rfl (.cons rfl (.nil)))))))))) ?_
              rintro nn wl1 ls ⟨i, acv, ys, rfl, hi, hBr, hoa, hys, E, hB4, hB11, hB19, hB607, hx662, hn661, rfl⟩
              have hs679 := Below.size E
              have hat : i < (ord (fP a b) 0 (letters (orI a.al b.al))).length → ((0 ≤ ((ord (fP a b) 0 (letters (orI a.al b.al))).getD i.toNat 0 / (List.length b.next : Int)) ∧ ((ord (fP a b) 0 (letters (orI a.al b.al))).getD i.toNat 0 / (List.length b.next : Int)) < (a.next.length : Int)) ∧ 0 ≤ ((ord (fP a b) 0 (letters (orI a.al b.al))).getD i.toNat 0 % (List.length b.next : Int)) ∧ ((ord (fP a b) 0 (letters (orI a.al b.al))).getD i.toNat 0 % (List.length b.next : Int)) < (List.length b.next : Int)) ∧ 0 ≤ (ord (fP a b) 0 (letters (orI a.al b.al))).getD i.toNat 0 ∧ (ord (fP a b) 0 (letters (orI a.al b.al))).getD i.toNat 0 ≤ 144 := fun h => by
                have h7 := hall _ (getD_mem (d := 0) (k := i.toNat) (by omega))
                exact ⟨inP_div hv' h7, h7.1, by have := h7.2; omega⟩
              have hyl : ys.length ≤ 20 := by rw [hys, List.length_map, List.length_take]; omega
              refine Cq.seq ?_
              refine Cq.region ?_
              refine Sq.lss .plain rfl rfl rfl ?_
              refine Sq.part (fun c680 => ?_) (fun c680 => ?_)
              · refine Sq.nil ?_
                refine Eq.next ?_
                refine Cq.seq ?_
                refine Cq.thn rfl ?_
                refine Cq.skip ?_
                refine Eq.next ?_
                refine Cq.seq ?_
                refine Cq.block ?_
                refine Cq.seq ?_
                refine Cq.region ?_
                refine Sq.idxInts sl52 one3 (Own.row hn661) .plain rfl rfl rfl .plain rfl rfl (by omega) (by omega) ?_
                refine Sq.assign .plain rfl rfl ?_
                refine Sq.nil ?_
                refine Eq.next ?_
                refine Cq.seq ?_
                refine Cq.drawS 15 (fun w' => Blk w' b1 27 [Value.int .i64 a.al, nx, ac] ∧ Blk w' b8 27 [Value.int .i64 b.al, nx', ac'] ∧ Blk w' b604 3 [Value.int .i64 (List.length b.next : Int)] ∧ Ext w0 w') mixed (⟨hB4, hB11, hB607, E⟩) (fun w681 e682 hS => ?_)
                clear hS
                have hs683 := Below.size e682
                replace E := E.trans e682
                replace hB4 := hB4.ext e682
                replace hB11 := hB11.ext e682
                replace hB19 := hB19.ext e682
                replace hB607 := hB607.ext e682
                replace hx662 := hx662.ext e682
                replace hn661 := hn661.ext e682
                replace hBr := hBr.ext e682
                replace hoa := hoa.ext e682
                have E_w681 := E
                have hB4_w681 := hB4
                have hB11_w681 := hB11
                have hB19_w681 := hB19
                have hB607_w681 := hB607
                have hx662_w681 := hx662
                have hn661_w681 := hn661
                have hBr_w681 := hBr
                have hoa_w681 := hoa
                refine Gq.st 0 rfl (by kernel_rfl) rfl .plain rfl (fun _ _ _ h => h) ⟨hB4, hB11, hB607, E⟩ (fun w' x => Still.fieldAddr fld27_2 rfl) ?_
                refine Gq.st 1 rfl (by kernel_rfl) rfl .plain rfl (fun _ _ _ h => h) ⟨hB4, hB11, hB607, E⟩ (fun w' x => Still.loadB one23 rfl x.1 rfl) ?_
                refine Gq.st 2 rfl (by kernel_rfl) rfl .plain rfl (fun _ _ _ h => h) ⟨hB4, hB11, hB607, E⟩ (fun w' x => Still.move rfl) ?_
                refine Gq.st 3 rfl (by kernel_rfl) rfl .plain rfl (fun _ _ _ h => h) ⟨hB4, hB11, hB607, E⟩ (fun w' x => Still.loadB one3 rfl x.2.2.1 rfl) ?_
                refine Gq.st 4 rfl (by kernel_rfl) rfl .plain rfl (fun _ _ _ h => h) ⟨hB4, hB11, hB607, E⟩ (fun w' x => Still.quo rfl rfl (by have := hat (by omega); omega)) ?_
                obtain ⟨p684, hp685_w681⟩ := Bools.at hac (i := ((ord (fP a b) 0 (letters (orI a.al b.al))).getD i.toNat 0) / (List.length b.next : Int)) (by have := hat (by omega); omega) (by have := hat (by omega); omega)
                refine Gq.st 5 rfl (by kernel_rfl) rfl .plain rfl (fun _ _ _ h => h) ⟨hB4, hB11, hB607, E⟩ (fun w' x => Still.at' sl23 hp685_w681 rfl rfl) ?_
                refine Gq.st 6 rfl (by kernel_rfl) rfl .plain rfl (fun _ _ _ h => h) ⟨hB4, hB11, hB607, E⟩ (fun w' x => Still.loadA one4 rfl (hp685_w681.ext (x.2.2.2)).1) ?_
                refine Gq.st 7 rfl (by kernel_rfl) rfl .plain rfl (fun _ _ _ h => h) ⟨hB4, hB11, hB607, E⟩ (fun w' x => Still.fieldAddr fld27_2 rfl) ?_
                refine Gq.st 8 rfl (by kernel_rfl) rfl .plain rfl (fun _ _ _ h => h) ⟨hB4, hB11, hB607, E⟩ (fun w' x => Still.loadB one23 rfl x.2.1 rfl) ?_
                refine Gq.st 9 rfl (by kernel_rfl) rfl .plain rfl (fun _ _ _ h => h) ⟨hB4, hB11, hB607, E⟩ (fun w' x => Still.move rfl) ?_
                refine Gq.st 10 rfl (by kernel_rfl) rfl .plain rfl (fun _ _ _ h => h) ⟨hB4, hB11, hB607, E⟩ (fun w' x => Still.loadB one3 rfl x.2.2.1 rfl) ?_
                refine Gq.st 11 rfl (by kernel_rfl) rfl .plain rfl (fun _ _ _ h => h) ⟨hB4, hB11, hB607, E⟩ (fun w' x => Still.rem rfl rfl (by have := hat (by omega); omega)) ?_
                obtain ⟨p686, hp687_w681⟩ := Bools.at hac' (i := ((ord (fP a b) 0 (letters (orI a.al b.al))).getD i.toNat 0) % (List.length b.next : Int)) (by have := hat (by omega); omega) (by have := hat (by omega); omega)
                refine Gq.st 12 rfl (by kernel_rfl) rfl .plain rfl (fun _ _ _ h => h) ⟨hB4, hB11, hB607, E⟩ (fun w' x => Still.at' sl23 hp687_w681 rfl rfl) ?_
                refine Gq.st 13 rfl (by kernel_rfl) rfl .plain rfl (fun _ _ _ h => h) ⟨hB4, hB11, hB607, E⟩ (fun w' x => Still.loadA one4 rfl (hp687_w681.ext (x.2.2.2)).1) ?_
                refine Gq.st 14 rfl (by kernel_rfl) rfl .plain rfl (fun _ _ _ h => h) ⟨hB4, hB11, hB607, E⟩ (fun w' x => Still.assign rfl) ?_
                refine Gq.one 15 rfl (by kernel_rfl) ?_
                refine Sq.assign .plain rfl rfl ?_
                refine Sq.nil ?_
                refine Eq.goes (fun h => absurd h (by decide)) ?_
                refine Gq.done (by kernel_rfl) ?_
                refine Eq.next ?_
                refine Cq.region ?_
                refine Sq.fieldAddr fld27_2 .plain rfl rfl ?_
                refine Sq.loadB one23 .plain rfl rfl hBr rfl ?_
                refine Sq.move .plain rfl rfl ?_
                refine Sq.eql .plain rfl rfl rfl ?_
                refine Sq.part (fun hk0 => ?_) (fun hk0 => ?_)
                · refine Sq.move .plain rfl rfl ?_
                  refine Sq.move (.met rfl rfl rfl) rfl rfl ?_
                  refine Sq.partB (fun hx1 => ?_) (fun hx1 => ?_)
                  · refine Sq.pickT .plain rfl rfl rfl ?_
                    refine Sq.move .plain rfl rfl ?_
                    refine Sq.move (.met rfl rfl rfl) rfl rfl ?_
                    refine Sq.partB (fun hy1 => ?_) (fun hy1 => ?_)
                    · refine Sq.pickT .plain rfl rfl rfl ?_
                      refine Sq.move .plain rfl rfl ?_
                      refine Sq.off rfl rfl rfl rfl rfl rfl ?_
                      refine Sq.off rfl rfl rfl rfl rfl rfl ?_
                      refine Sq.off rfl rfl rfl rfl rfl rfl ?_
                      refine Sq.offU rfl rfl rfl rfl rfl rfl ?_
                      refine Sq.offU rfl rfl rfl rfl rfl rfl ?_
                      refine Sq.offU rfl rfl rfl rfl rfl rfl ?_
                      refine Sq.offU rfl rfl rfl rfl rfl rfl ?_
                      refine Sq.off rfl rfl rfl rfl rfl rfl ?_
                      refine Sq.pickT .plain rfl rfl rfl ?_
                      refine Sq.move .plain rfl rfl ?_
                      refine Sq.off rfl rfl rfl rfl rfl rfl ?_
                      refine Sq.off rfl rfl rfl rfl rfl rfl ?_
                      refine Sq.off rfl rfl rfl rfl rfl rfl ?_
                      refine Sq.offU rfl rfl rfl rfl rfl rfl ?_
                      refine Sq.off rfl rfl rfl rfl rfl rfl ?_
                      refine Sq.off rfl rfl rfl rfl rfl rfl ?_
                      refine Sq.offU rfl rfl rfl rfl rfl rfl ?_
                      refine Sq.offU rfl rfl rfl rfl rfl rfl ?_
                      refine Sq.off rfl rfl rfl rfl rfl rfl ?_
                      refine Sq.pickT .plain rfl rfl rfl ?_
                      refine Sq.app1 sl23 hoa (by omega) (by first | omega | (simp; omega)) .plain rfl rfl rfl rfl rfl rfl rfl (fun v688 w689 ho691 g690 _ => ?_)
                      have hs692 := g690.size
                      replace E := E.owned hoa g690 (by omega)
                      replace hB4 := hB4.owned hoa g690 (by decide)
                      replace hB11 := hB11.owned hoa g690 (by decide)
                      replace hB19 := hB19.owned hoa g690 (by decide)
                      replace hB607 := hB607.owned hoa g690 (by decide)
                      replace hx662 := hx662.owned hoa g690 (by decide) (by decide)
                      replace hn661 := hn661.owned hoa g690 (by decide)
                      replace hBr := hBr.owned hoa g690 (by decide)
                      refine Sq.fieldAddr fld27_2 .plain rfl rfl ?_
                      refine Sq.store one23 .plain rfl rfl (Row.one (Own.row ho691)) hBr (by simp) (fun w693 g694 hB695 => ?_)
                      have hs696 := World.grownBy.size g694
                      replace E := E.grown g694 (fun k hk => by injection hk with hk; subst hk; omega)
                      replace hB4 := hB4.grown g694 (by intro h; injection h with h; omega)
                      replace hB11 := hB11.grown g694 (by intro h; injection h with h; omega)
                      replace hB19 := hB19.grown g694 (by intro h; injection h with h; omega)
                      replace hB607 := hB607.grown g694 (by intro h; injection h with h; omega)
                      replace hx662 := hx662.stored g694 hBr (by decide) (by decide)
                      replace hn661 := hn661.stored g694 hBr (by decide)
                      replace ho691 := ho691.stored g694 hBr (by decide)
                      replace hBr := hB695
                      refine Sq.nil ?_
                      refine Eq.end ?_
                      refine Eq.next ?_
                      refine Cq.region ?_
                      refine Sq.add .plain rfl rfl rfl (by omega) ?_
                      refine Sq.move .plain rfl rfl ?_
                      refine Sq.nil ?_
                      have e1 := toNat_succ hi.1
                      refine Eq.round _ _ ⟨i + 1, _, _, rfl, by omega, hBr, Own.snocB ho691, by rw [e1, take_snoc 0 (by omega), List.map_append, ← hys]; congr 1; simp only [List.map_cons, List.map_nil, accP, kindB, accA, hk0, hx1, hy1]; first | done | rfl | simp, E, hB4, hB11, hB19, hB607, hx662, hn661, rfl⟩ (by omega) (.cons rfl (.cons rfl (.cons rfl (.cons rfl (.cons rfl (.cons rfl (.cons rfl (.cons rfl (.cons rfl (.nil))))))))))
                    · refine Sq.pickT .plain rfl rfl rfl ?_
                      refine Sq.move .plain rfl rfl ?_
                      refine Sq.move (.met rfl rfl rfl) rfl rfl ?_
                      refine Sq.eql (.met rfl rfl rfl) rfl rfl rfl ?_
                      refine Sq.isF (by omega) ?_
                      refine Sq.move (.met rfl rfl rfl) rfl rfl ?_
                      refine Sq.off rfl rfl rfl rfl rfl rfl ?_
                      refine Sq.off rfl rfl rfl rfl rfl rfl ?_
                      refine Sq.offU rfl rfl rfl rfl rfl rfl ?_
                      refine Sq.off rfl rfl rfl rfl rfl rfl ?_
                      refine Sq.pickF (.met rfl rfl rfl) rfl rfl rfl ?_
                      refine Sq.pickF .plain rfl rfl rfl ?_
                      refine Sq.move .plain rfl rfl ?_
                      refine Sq.move (.met rfl rfl rfl) rfl rfl ?_
                      refine Sq.eql (.met rfl rfl rfl) rfl rfl rfl ?_
                      refine Sq.isF (by omega) ?_
                      refine Sq.move (.met rfl rfl rfl) rfl rfl ?_
                      refine Sq.off rfl rfl rfl rfl rfl rfl ?_
                      refine Sq.pickF (.met rfl rfl rfl) rfl rfl rfl ?_
                      refine Sq.move (.met rfl rfl rfl) rfl rfl ?_
                      refine Sq.off rfl rfl rfl rfl rfl rfl ?_
                      refine Sq.off rfl rfl rfl rfl rfl rfl ?_
                      refine Sq.pickF (.met rfl rfl rfl) rfl rfl rfl ?_
                      refine Sq.pickF .plain rfl rfl rfl ?_
                      refine Sq.app1 sl23 hoa (by omega) (by first | omega | (simp; omega)) .plain rfl rfl rfl rfl rfl rfl rfl (fun v697 w698 ho700 g699 _ => ?_)
                      have hs701 := g699.size
                      replace E := E.owned hoa g699 (by omega)
                      replace hB4 := hB4.owned hoa g699 (by decide)
                      replace hB11 := hB11.owned hoa g699 (by decide)
                      replace hB19 := hB19.owned hoa g699 (by decide)
                      replace hB607 := hB607.owned hoa g699 (by decide)
                      replace hx662 := hx662.owned hoa g699 (by decide) (by decide)
                      replace hn661 := hn661.owned hoa g699 (by decide)
                      replace hBr := hBr.owned hoa g699 (by decide)
                      refine Sq.fieldAddr fld27_2 .plain rfl rfl ?_
                      refine Sq.store one23 .plain rfl rfl (Row.one (Own.row ho700)) hBr (by simp) (fun w702 g703 hB704 => ?_)
                      have hs705 := World.grownBy.size g703
                      replace E := E.grown g703 (fun k hk => by injection hk with hk; subst hk; omega)
                      replace hB4 := hB4.grown g703 (by intro h; injection h with h; omega)
                      replace hB11 := hB11.grown g703 (by intro h; injection h with h; omega)
                      replace hB19 := hB19.grown g703 (by intro h; injection h with h; omega)
                      replace hB607 := hB607.grown g703 (by intro h; injection h with h; omega)
                      replace hx662 := hx662.stored g703 hBr (by decide) (by decide)
                      replace hn661 := hn661.stored g703 hBr (by decide)
                      replace ho700 := ho700.stored g703 hBr (by decide)
                      replace hBr := hB704
                      refine Sq.nil ?_
                      refine Eq.end ?_
                      refine Eq.next ?_
                      refine Cq.region ?_
                      refine Sq.add .plain rfl rfl rfl (by omega) ?_
                      refine Sq.move .plain rfl rfl ?_
                      refine Sq.nil ?_
                      have e1 := toNat_succ hi.1
                      refine Eq.round _ _ ⟨i + 1, _, _, rfl, by omega, hBr, Own.snocB ho700, by rw [e1, take_snoc 0 (by omega), List.map_append, ← hys]; congr 1; simp only [List.map_cons, List.map_nil, accP, kindB, accA, hk0, hx1, hy1]; first | done | rfl | simp, E, hB4, hB11, hB19, hB607, hx662, hn661, rfl⟩ (by omega) (.cons rfl (.cons rfl (.cons rfl (.cons rfl (.cons rfl (.cons rfl (.cons rfl (.cons rfl (.cons rfl (.nil))))))))))
                  · refine Sq.pickT .plain rfl rfl rfl ?_
                    refine Sq.move .plain rfl rfl ?_
                    refine Sq.off rfl rfl rfl rfl rfl rfl ?_
                    refine Sq.pickF .plain rfl rfl rfl ?_
                    refine Sq.move .plain rfl rfl ?_
                    refine Sq.move (.met rfl rfl rfl) rfl rfl ?_
                    refine Sq.eql (.met rfl rfl rfl) rfl rfl rfl ?_
                    refine Sq.isF (by omega) ?_
                    refine Sq.move (.met rfl rfl rfl) rfl rfl ?_
                    refine Sq.off rfl rfl rfl rfl rfl rfl ?_
                    refine Sq.off rfl rfl rfl rfl rfl rfl ?_
                    refine Sq.offU rfl rfl rfl rfl rfl rfl ?_
                    refine Sq.off rfl rfl rfl rfl rfl rfl ?_
                    refine Sq.pickF (.met rfl rfl rfl) rfl rfl rfl ?_
                    refine Sq.pickF .plain rfl rfl rfl ?_
                    refine Sq.move .plain rfl rfl ?_
                    refine Sq.move (.met rfl rfl rfl) rfl rfl ?_
                    refine Sq.eql (.met rfl rfl rfl) rfl rfl rfl ?_
                    refine Sq.isF (by omega) ?_
                    refine Sq.move (.met rfl rfl rfl) rfl rfl ?_
                    refine Sq.off rfl rfl rfl rfl rfl rfl ?_
                    refine Sq.pickF (.met rfl rfl rfl) rfl rfl rfl ?_
                    refine Sq.move (.met rfl rfl rfl) rfl rfl ?_
                    refine Sq.off rfl rfl rfl rfl rfl rfl ?_
                    refine Sq.off rfl rfl rfl rfl rfl rfl ?_
                    refine Sq.pickF (.met rfl rfl rfl) rfl rfl rfl ?_
                    refine Sq.pickF .plain rfl rfl rfl ?_
                    refine Sq.app1 sl23 hoa (by omega) (by first | omega | (simp; omega)) .plain rfl rfl rfl rfl rfl rfl rfl (fun v706 w707 ho709 g708 _ => ?_)
                    have hs710 := g708.size
                    replace E := E.owned hoa g708 (by omega)
                    replace hB4 := hB4.owned hoa g708 (by decide)
                    replace hB11 := hB11.owned hoa g708 (by decide)
                    replace hB19 := hB19.owned hoa g708 (by decide)
                    replace hB607 := hB607.owned hoa g708 (by decide)
                    replace hx662 := hx662.owned hoa g708 (by decide) (by decide)
                    replace hn661 := hn661.owned hoa g708 (by decide)
                    replace hBr := hBr.owned hoa g708 (by decide)
                    refine Sq.fieldAddr fld27_2 .plain rfl rfl ?_
                    refine Sq.store one23 .plain rfl rfl (Row.one (Own.row ho709)) hBr (by simp) (fun w711 g712 hB713 => ?_)
                    have hs714 := World.grownBy.size g712
                    replace E := E.grown g712 (fun k hk => by injection hk with hk; subst hk; omega)
                    replace hB4 := hB4.grown g712 (by intro h; injection h with h; omega)
                    replace hB11 := hB11.grown g712 (by intro h; injection h with h; omega)
                    replace hB19 := hB19.grown g712 (by intro h; injection h with h; omega)
                    replace hB607 := hB607.grown g712 (by intro h; injection h with h; omega)
                    replace hx662 := hx662.stored g712 hBr (by decide) (by decide)
                    replace hn661 := hn661.stored g712 hBr (by decide)
                    replace ho709 := ho709.stored g712 hBr (by decide)
                    replace hBr := hB713
                    refine Sq.nil ?_
                    refine Eq.end ?_
                    refine Eq.next ?_
                    refine Cq.region ?_
                    refine Sq.add .plain rfl rfl rfl (by omega) ?_
                    refine Sq.move .plain rfl rfl ?_
                    refine Sq.nil ?_
                    have e1 := toNat_succ hi.1
                    refine Eq.round _ _ ⟨i + 1, _, _, rfl, by omega, hBr, Own.snocB ho709, by rw [e1, take_snoc 0 (by omega), List.map_append, ← hys]; congr 1; simp only [List.map_cons, List.map_nil, accP, kindB, accA, hk0, hx1]; first | done | rfl | simp, E, hB4, hB11, hB19, hB607, hx662, hn661, rfl⟩ (by omega) (.cons rfl (.cons rfl (.cons rfl (.cons rfl (.cons rfl (.cons rfl (.cons rfl (.cons rfl (.cons rfl (.nil))))))))))
                · refine Sq.move .plain rfl rfl ?_
                  refine Sq.off rfl rfl rfl rfl rfl rfl ?_
                  refine Sq.pickF .plain rfl rfl rfl ?_
                  refine Sq.move .plain rfl rfl ?_
                  refine Sq.off rfl rfl rfl rfl rfl rfl ?_
                  refine Sq.pickF .plain rfl rfl rfl ?_
                  refine Sq.move .plain rfl rfl ?_
                  refine Sq.move (.met rfl rfl rfl) rfl rfl ?_
                  refine Sq.eql (.met rfl rfl rfl) rfl rfl rfl ?_
                  refine Sq.part (fun hk1 => ?_) (fun hk1 => ?_)
                  · refine Sq.move (.met rfl rfl rfl) rfl rfl ?_
                    refine Sq.move (.met rfl rfl rfl) rfl rfl ?_
                    refine Sq.partB (fun hx2 => ?_) (fun hx2 => ?_)
                    · refine Sq.move (.met rfl rfl rfl) rfl rfl ?_
                      refine Sq.off rfl rfl rfl rfl rfl rfl ?_
                      refine Sq.pickT (.met rfl rfl rfl) rfl rfl rfl ?_
                      refine Sq.pickT (.met rfl rfl rfl) rfl rfl rfl ?_
                      refine Sq.pickF .plain rfl rfl rfl ?_
                      refine Sq.move .plain rfl rfl ?_
                      refine Sq.off rfl rfl rfl rfl rfl rfl ?_
                      refine Sq.off rfl rfl rfl rfl rfl rfl ?_
                      refine Sq.off rfl rfl rfl rfl rfl rfl ?_
                      refine Sq.offU rfl rfl rfl rfl rfl rfl ?_
                      refine Sq.off rfl rfl rfl rfl rfl rfl ?_
                      refine Sq.off rfl rfl rfl rfl rfl rfl ?_
                      refine Sq.offU rfl rfl rfl rfl rfl rfl ?_
                      refine Sq.offU rfl rfl rfl rfl rfl rfl ?_
                      refine Sq.off rfl rfl rfl rfl rfl rfl ?_
                      refine Sq.pickT .plain rfl rfl rfl ?_
                      refine Sq.app1 sl23 hoa (by omega) (by first | omega | (simp; omega)) .plain rfl rfl rfl rfl rfl rfl rfl (fun v715 w716 ho718 g717 _ => ?_)
                      have hs719 := g717.size
                      replace E := E.owned hoa g717 (by omega)
                      replace hB4 := hB4.owned hoa g717 (by decide)
                      replace hB11 := hB11.owned hoa g717 (by decide)
                      replace hB19 := hB19.owned hoa g717 (by decide)
                      replace hB607 := hB607.owned hoa g717 (by decide)
                      replace hx662 := hx662.owned hoa g717 (by decide) (by decide)
                      replace hn661 := hn661.owned hoa g717 (by decide)
                      replace hBr := hBr.owned hoa g717 (by decide)
                      refine Sq.fieldAddr fld27_2 .plain rfl rfl ?_
                      refine Sq.store one23 .plain rfl rfl (Row.one (Own.row ho718)) hBr (by simp) (fun w720 g721 hB722 => ?_)
                      have hs723 := World.grownBy.size g721
                      replace E := E.grown g721 (fun k hk => by injection hk with hk; subst hk; omega)
                      replace hB4 := hB4.grown g721 (by intro h; injection h with h; omega)
                      replace hB11 := hB11.grown g721 (by intro h; injection h with h; omega)
                      replace hB19 := hB19.grown g721 (by intro h; injection h with h; omega)
                      replace hB607 := hB607.grown g721 (by intro h; injection h with h; omega)
                      replace hx662 := hx662.stored g721 hBr (by decide) (by decide)
                      replace hn661 := hn661.stored g721 hBr (by decide)
                      replace ho718 := ho718.stored g721 hBr (by decide)
                      replace hBr := hB722
                      refine Sq.nil ?_
                      refine Eq.end ?_
                      refine Eq.next ?_
                      refine Cq.region ?_
                      refine Sq.add .plain rfl rfl rfl (by omega) ?_
                      refine Sq.move .plain rfl rfl ?_
                      refine Sq.nil ?_
                      have e1 := toNat_succ hi.1
                      refine Eq.round _ _ ⟨i + 1, _, _, rfl, by omega, hBr, Own.snocB ho718, by rw [e1, take_snoc 0 (by omega), List.map_append, ← hys]; congr 1; simp only [List.map_cons, List.map_nil, accP, kindB, accA, hk0, hk1, hx2]; first | done | rfl | simp, E, hB4, hB11, hB19, hB607, hx662, hn661, rfl⟩ (by omega) (.cons rfl (.cons rfl (.cons rfl (.cons rfl (.cons rfl (.cons rfl (.cons rfl (.cons rfl (.cons rfl (.nil))))))))))
                    · refine Sq.move (.met rfl rfl rfl) rfl rfl ?_
                      refine Sq.move (.met rfl rfl rfl) rfl rfl ?_
                      refine Sq.partB (fun hy2 => ?_) (fun hy2 => ?_)
                      · refine Sq.pickF (.met rfl rfl rfl) rfl rfl rfl ?_
                        refine Sq.pickT (.met rfl rfl rfl) rfl rfl rfl ?_
                        refine Sq.pickF .plain rfl rfl rfl ?_
                        refine Sq.move .plain rfl rfl ?_
                        refine Sq.off rfl rfl rfl rfl rfl rfl ?_
                        refine Sq.off rfl rfl rfl rfl rfl rfl ?_
                        refine Sq.off rfl rfl rfl rfl rfl rfl ?_
                        refine Sq.offU rfl rfl rfl rfl rfl rfl ?_
                        refine Sq.off rfl rfl rfl rfl rfl rfl ?_
                        refine Sq.off rfl rfl rfl rfl rfl rfl ?_
                        refine Sq.offU rfl rfl rfl rfl rfl rfl ?_
                        refine Sq.offU rfl rfl rfl rfl rfl rfl ?_
                        refine Sq.off rfl rfl rfl rfl rfl rfl ?_
                        refine Sq.pickT .plain rfl rfl rfl ?_
                        refine Sq.app1 sl23 hoa (by omega) (by first | omega | (simp; omega)) .plain rfl rfl rfl rfl rfl rfl rfl (fun v724 w725 ho727 g726 _ => ?_)
                        have hs728 := g726.size
                        replace E := E.owned hoa g726 (by omega)
                        replace hB4 := hB4.owned hoa g726 (by decide)
                        replace hB11 := hB11.owned hoa g726 (by decide)
                        replace hB19 := hB19.owned hoa g726 (by decide)
                        replace hB607 := hB607.owned hoa g726 (by decide)
                        replace hx662 := hx662.owned hoa g726 (by decide) (by decide)
                        replace hn661 := hn661.owned hoa g726 (by decide)
                        replace hBr := hBr.owned hoa g726 (by decide)
                        refine Sq.fieldAddr fld27_2 .plain rfl rfl ?_
                        refine Sq.store one23 .plain rfl rfl (Row.one (Own.row ho727)) hBr (by simp) (fun w729 g730 hB731 => ?_)
                        have hs732 := World.grownBy.size g730
                        replace E := E.grown g730 (fun k hk => by injection hk with hk; subst hk; omega)
                        replace hB4 := hB4.grown g730 (by intro h; injection h with h; omega)
                        replace hB11 := hB11.grown g730 (by intro h; injection h with h; omega)
                        replace hB19 := hB19.grown g730 (by intro h; injection h with h; omega)
                        replace hB607 := hB607.grown g730 (by intro h; injection h with h; omega)
                        replace hx662 := hx662.stored g730 hBr (by decide) (by decide)
                        replace hn661 := hn661.stored g730 hBr (by decide)
                        replace ho727 := ho727.stored g730 hBr (by decide)
                        replace hBr := hB731
                        refine Sq.nil ?_
                        refine Eq.end ?_
                        refine Eq.next ?_
                        refine Cq.region ?_
                        refine Sq.add .plain rfl rfl rfl (by omega) ?_
                        refine Sq.move .plain rfl rfl ?_
                        refine Sq.nil ?_
                        have e1 := toNat_succ hi.1
                        refine Eq.round _ _ ⟨i + 1, _, _, rfl, by omega, hBr, Own.snocB ho727, by rw [e1, take_snoc 0 (by omega), List.map_append, ← hys]; congr 1; simp only [List.map_cons, List.map_nil, accP, kindB, accA, hk0, hk1, hx2, hy2]; first | done | rfl | simp, E, hB4, hB11, hB19, hB607, hx662, hn661, rfl⟩ (by omega) (.cons rfl (.cons rfl (.cons rfl (.cons rfl (.cons rfl (.cons rfl (.cons rfl (.cons rfl (.cons rfl (.nil))))))))))
                      · refine Sq.pickF (.met rfl rfl rfl) rfl rfl rfl ?_
                        refine Sq.pickT (.met rfl rfl rfl) rfl rfl rfl ?_
                        refine Sq.pickF .plain rfl rfl rfl ?_
                        refine Sq.move .plain rfl rfl ?_
                        refine Sq.move (.met rfl rfl rfl) rfl rfl ?_
                        refine Sq.eql (.met rfl rfl rfl) rfl rfl rfl ?_
                        refine Sq.isF (by omega) ?_
                        refine Sq.move (.met rfl rfl rfl) rfl rfl ?_
                        refine Sq.off rfl rfl rfl rfl rfl rfl ?_
                        refine Sq.pickF (.met rfl rfl rfl) rfl rfl rfl ?_
                        refine Sq.move (.met rfl rfl rfl) rfl rfl ?_
                        refine Sq.off rfl rfl rfl rfl rfl rfl ?_
                        refine Sq.off rfl rfl rfl rfl rfl rfl ?_
                        refine Sq.pickF (.met rfl rfl rfl) rfl rfl rfl ?_
                        refine Sq.pickF .plain rfl rfl rfl ?_
                        refine Sq.app1 sl23 hoa (by omega) (by first | omega | (simp; omega)) .plain rfl rfl rfl rfl rfl rfl rfl (fun v733 w734 ho736 g735 _ => ?_)
                        have hs737 := g735.size
                        replace E := E.owned hoa g735 (by omega)
                        replace hB4 := hB4.owned hoa g735 (by decide)
                        replace hB11 := hB11.owned hoa g735 (by decide)
                        replace hB19 := hB19.owned hoa g735 (by decide)
                        replace hB607 := hB607.owned hoa g735 (by decide)
                        replace hx662 := hx662.owned hoa g735 (by decide) (by decide)
                        replace hn661 := hn661.owned hoa g735 (by decide)
                        replace hBr := hBr.owned hoa g735 (by decide)
                        refine Sq.fieldAddr fld27_2 .plain rfl rfl ?_
                        refine Sq.store one23 .plain rfl rfl (Row.one (Own.row ho736)) hBr (by simp) (fun w738 g739 hB740 => ?_)
                        have hs741 := World.grownBy.size g739
                        replace E := E.grown g739 (fun k hk => by injection hk with hk; subst hk; omega)
                        replace hB4 := hB4.grown g739 (by intro h; injection h with h; omega)
                        replace hB11 := hB11.grown g739 (by intro h; injection h with h; omega)
                        replace hB19 := hB19.grown g739 (by intro h; injection h with h; omega)
                        replace hB607 := hB607.grown g739 (by intro h; injection h with h; omega)
                        replace hx662 := hx662.stored g739 hBr (by decide) (by decide)
                        replace hn661 := hn661.stored g739 hBr (by decide)
                        replace ho736 := ho736.stored g739 hBr (by decide)
                        replace hBr := hB740
                        refine Sq.nil ?_
                        refine Eq.end ?_
                        refine Eq.next ?_
                        refine Cq.region ?_
                        refine Sq.add .plain rfl rfl rfl (by omega) ?_
                        refine Sq.move .plain rfl rfl ?_
                        refine Sq.nil ?_
                        have e1 := toNat_succ hi.1
                        refine Eq.round _ _ ⟨i + 1, _, _, rfl, by omega, hBr, Own.snocB ho736, by rw [e1, take_snoc 0 (by omega), List.map_append, ← hys]; congr 1; simp only [List.map_cons, List.map_nil, accP, kindB, accA, hk0, hk1, hx2, hy2]; first | done | rfl | simp, E, hB4, hB11, hB19, hB607, hx662, hn661, rfl⟩ (by omega) (.cons rfl (.cons rfl (.cons rfl (.cons rfl (.cons rfl (.cons rfl (.cons rfl (.cons rfl (.cons rfl (.nil))))))))))
                  · refine Sq.move (.met rfl rfl rfl) rfl rfl ?_
                    refine Sq.off rfl rfl rfl rfl rfl rfl ?_
                    refine Sq.off rfl rfl rfl rfl rfl rfl ?_
                    refine Sq.offU rfl rfl rfl rfl rfl rfl ?_
                    refine Sq.off rfl rfl rfl rfl rfl rfl ?_
                    refine Sq.pickF (.met rfl rfl rfl) rfl rfl rfl ?_
                    refine Sq.pickF .plain rfl rfl rfl ?_
                    refine Sq.move .plain rfl rfl ?_
                    refine Sq.move (.met rfl rfl rfl) rfl rfl ?_
                    refine Sq.eql (.met rfl rfl rfl) rfl rfl rfl ?_
                    refine Sq.isT (by omega) ?_
                    refine Sq.move (.met rfl rfl rfl) rfl rfl ?_
                    refine Sq.move (.met rfl rfl rfl) rfl rfl ?_
                    refine Sq.partB (fun hx3 => ?_) (fun hx3 => ?_)
                    · refine Sq.pickT (.met rfl rfl rfl) rfl rfl rfl ?_
                      refine Sq.move (.met rfl rfl rfl) rfl rfl ?_
                      refine Sq.move (.met rfl rfl rfl) rfl rfl ?_
                      refine Sq.not (.met rfl rfl rfl) rfl rfl ?_
                      refine Sq.pickT (.met rfl rfl rfl) rfl rfl rfl ?_
                      refine Sq.pickF .plain rfl rfl rfl ?_
                      refine Sq.app1 sl23 hoa (by omega) (by first | omega | (simp; omega)) .plain rfl rfl rfl rfl rfl rfl rfl (fun v742 w743 ho745 g744 _ => ?_)
                      have hs746 := g744.size
                      replace E := E.owned hoa g744 (by omega)
                      replace hB4 := hB4.owned hoa g744 (by decide)
                      replace hB11 := hB11.owned hoa g744 (by decide)
                      replace hB19 := hB19.owned hoa g744 (by decide)
                      replace hB607 := hB607.owned hoa g744 (by decide)
                      replace hx662 := hx662.owned hoa g744 (by decide) (by decide)
                      replace hn661 := hn661.owned hoa g744 (by decide)
                      replace hBr := hBr.owned hoa g744 (by decide)
                      refine Sq.fieldAddr fld27_2 .plain rfl rfl ?_
                      refine Sq.store one23 .plain rfl rfl (Row.one (Own.row ho745)) hBr (by simp) (fun w747 g748 hB749 => ?_)
                      have hs750 := World.grownBy.size g748
                      replace E := E.grown g748 (fun k hk => by injection hk with hk; subst hk; omega)
                      replace hB4 := hB4.grown g748 (by intro h; injection h with h; omega)
                      replace hB11 := hB11.grown g748 (by intro h; injection h with h; omega)
                      replace hB19 := hB19.grown g748 (by intro h; injection h with h; omega)
                      replace hB607 := hB607.grown g748 (by intro h; injection h with h; omega)
                      replace hx662 := hx662.stored g748 hBr (by decide) (by decide)
                      replace hn661 := hn661.stored g748 hBr (by decide)
                      replace ho745 := ho745.stored g748 hBr (by decide)
                      replace hBr := hB749
                      refine Sq.nil ?_
                      refine Eq.end ?_
                      refine Eq.next ?_
                      refine Cq.region ?_
                      refine Sq.add .plain rfl rfl rfl (by omega) ?_
                      refine Sq.move .plain rfl rfl ?_
                      refine Sq.nil ?_
                      have e1 := toNat_succ hi.1
                      refine Eq.round _ _ ⟨i + 1, _, _, rfl, by omega, hBr, Own.snocB ho745, by rw [e1, take_snoc 0 (by omega), List.map_append, ← hys]; congr 1; simp only [List.map_cons, List.map_nil, accP, kindB, accA, hk0, hk1, hx3]; first | done | rfl | simp, E, hB4, hB11, hB19, hB607, hx662, hn661, rfl⟩ (by omega) (.cons rfl (.cons rfl (.cons rfl (.cons rfl (.cons rfl (.cons rfl (.cons rfl (.cons rfl (.cons rfl (.nil))))))))))
                    · refine Sq.pickT (.met rfl rfl rfl) rfl rfl rfl ?_
                      refine Sq.move (.met rfl rfl rfl) rfl rfl ?_
                      refine Sq.off rfl rfl rfl rfl rfl rfl ?_
                      refine Sq.off rfl rfl rfl rfl rfl rfl ?_
                      refine Sq.pickF (.met rfl rfl rfl) rfl rfl rfl ?_
                      refine Sq.pickF .plain rfl rfl rfl ?_
                      refine Sq.app1 sl23 hoa (by omega) (by first | omega | (simp; omega)) .plain rfl rfl rfl rfl rfl rfl rfl (fun v751 w752 ho754 g753 _ => ?_)
                      have hs755 := g753.size
                      replace E := E.owned hoa g753 (by omega)
                      replace hB4 := hB4.owned hoa g753 (by decide)
                      replace hB11 := hB11.owned hoa g753 (by decide)
                      replace hB19 := hB19.owned hoa g753 (by decide)
                      replace hB607 := hB607.owned hoa g753 (by decide)
                      replace hx662 := hx662.owned hoa g753 (by decide) (by decide)
                      replace hn661 := hn661.owned hoa g753 (by decide)
                      replace hBr := hBr.owned hoa g753 (by decide)
                      refine Sq.fieldAddr fld27_2 .plain rfl rfl ?_
                      refine Sq.store one23 .plain rfl rfl (Row.one (Own.row ho754)) hBr (by simp) (fun w756 g757 hB758 => ?_)
                      have hs759 := World.grownBy.size g757
                      replace E := E.grown g757 (fun k hk => by injection hk with hk; subst hk; omega)
                      replace hB4 := hB4.grown g757 (by intro h; injection h with h; omega)
                      replace hB11 := hB11.grown g757 (by intro h; injection h with h; omega)
                      replace hB19 := hB19.grown g757 (by intro h; injection h with h; omega)
                      replace hB607 := hB607.grown g757 (by intro h; injection h with h; omega)
                      replace hx662 := hx662.stored g757 hBr (by decide) (by decide)
                      replace hn661 := hn661.stored g757 hBr (by decide)
                      replace ho754 := ho754.stored g757 hBr (by decide)
                      replace hBr := hB758
                      refine Sq.nil ?_
                      refine Eq.end ?_
                      refine Eq.next ?_
                      refine Cq.region ?_
                      refine Sq.add .plain rfl rfl rfl (by omega) ?_
                      refine Sq.move .plain rfl rfl ?_
                      refine Sq.nil ?_
                      have e1 := toNat_succ hi.1
                      refine Eq.round _ _ ⟨i + 1, _, _, rfl, by omega, hBr, Own.snocB ho754, by rw [e1, take_snoc 0 (by omega), List.map_append, ← hys]; congr 1; simp only [List.map_cons, List.map_nil, accP, kindB, accA, hk0, hk1, hx3]; first | done | rfl | simp, E, hB4, hB11, hB19, hB607, hx662, hn661, rfl⟩ (by omega) (.cons rfl (.cons rfl (.cons rfl (.cons rfl (.cons rfl (.cons rfl (.cons rfl (.cons rfl (.cons rfl (.nil))))))))))
              · refine Sq.nil ?_
                refine Eq.next ?_
                refine Cq.seq ?_
                refine Cq.els rfl ?_
                refine Cq.exit ?_
                refine Eq.past ?_
                refine Eq.past ?_
                refine Eq.hit ?_
                refine Eq.next ?_
                refine Cq.seq ?_
                refine Cq.region ?_
                refine Sq.loadAgg agg27 .plain rfl rfl hBr rfl ?_
                refine Sq.storeAgg agg27 .plain rfl rfl (one_cons rfl (one_cons (Rows.one (OwnRows.rows hx662)) (one_cons (Row.one (Own.row hoa)) one_nil))) hB19 rfl rfl (fun w760 g761 hB762 => ?_)
                have hs763 := World.grownBy.size g761
                replace E := E.grown g761 (fun k hk => by injection hk with hk; subst hk; omega)
                replace hB4 := hB4.grown g761 (by intro h; injection h with h; omega)
                replace hB11 := hB11.grown g761 (by intro h; injection h with h; omega)
                replace hB607 := hB607.grown g761 (by intro h; injection h with h; omega)
                replace hx662 := hx662.stored g761 hB19 (by decide) (by decide)
                replace hn661 := hn661.stored g761 hB19 (by decide)
                replace hBr := hBr.grown g761 (by intro h; injection h with h; omega)
                replace hoa := hoa.stored g761 hB19 (by decide)
                replace hB19 := hB762
                refine Sq.assign .plain rfl rfl ?_
                refine Sq.nil ?_
                refine Eq.next ?_
                refine Cq.ret ?_
                refine Eq.retCell2 rfl rfl agg27 hB19 rfl rfl ?_
                have hok := prodOk_len hv hv' (k := k) (by omega) hl663
                have e : prodA a b k = (⟨(orI a.al b.al), ((ord (fP a b) 0 (letters (orI a.al b.al))).map (rowAt (fP a b) (letters (orI a.al b.al)) (ord (fP a b) 0 (letters (orI a.al b.al))))), ys⟩ : A) := by rw [← numP hv hv', hys, List.take_of_length_le (by omega)]; unfold num; rfl
                exact ⟨⟨_, by rw [hok], by rw [if_pos hok, e]; exact ⟨_, _, rfl, OwnRows.now (OwnRows.mono hx662 (by omega)), hoa⟩⟩, E⟩
            · rw [if_neg hl663] at hn661 hx662
              refine Sq.move .plain rfl rfl ?_
              refine Sq.extract .plain rfl rfl rfl ?_
              refine Sq.extract .plain rfl rfl rfl ?_
              refine Sq.extract .plain rfl rfl rfl ?_
              refine Sq.isF (hl663) ?_
              refine Sq.assign .plain rfl rfl ?_
              refine Sq.assign .plain rfl rfl ?_
              refine Sq.assign .plain rfl rfl ?_
              refine Sq.nil ?_
              refine Eq.next ?_
              refine Cq.seq ?_
              refine Cq.seq ?_
              refine Cq.region ?_
              refine Sq.move .plain rfl rfl ?_
              refine Sq.notF .plain rfl rfl ?_
              refine Sq.nil ?_
              refine Eq.next ?_
              refine Cq.thn rfl ?_
              refine Cq.seq ?_
              refine Cq.region ?_
              refine Sq.build st27 rfl rfl .plain rfl rfl one_nil rfl ?_
              refine Sq.storeAgg agg27 .plain rfl rfl (one_cons rfl (one_cons rfl (one_cons rfl one_nil))) hB19 rfl rfl (fun w764 g765 hB766 => ?_)
              have hs767 := World.grownBy.size g765
              replace E := E.grown g765 (fun k hk => by injection hk with hk; subst hk; omega)
              replace hB4 := hB4.grown g765 (by intro h; injection h with h; omega)
              replace hB11 := hB11.grown g765 (by intro h; injection h with h; omega)
              replace hP1 := hP1.grown g765 (by intro h; injection h with h; omega)
              replace hP2 := hP2.grown g765 (by intro h; injection h with h; omega)
              replace hT1 := hT1.grown g765 (by intro h; injection h with h; omega)
              replace hT2 := hT2.grown g765 (by intro h; injection h with h; omega)
              replace hB607 := hB607.grown g765 (by intro h; injection h with h; omega)
              replace hB625 := hB625.grown g765 (by intro h; injection h with h; omega)
              replace hl644 := hl644.stored g765 hB19 (by decide)
              replace hB19 := hB766
              refine Sq.assign .plain rfl rfl ?_
              refine Sq.nil ?_
              refine Eq.next ?_
              refine Cq.ret ?_
              refine Eq.pastRet ?_
              refine Eq.retCell2 rfl rfl agg27 hB19 rfl rfl ?_
              have hno : prodOk a b k = false := prodOk_big hv hv' hl663
              exact ⟨⟨_, by rw [hno], by rw [if_neg (by rw [hno]; decide)]; exact ⟨_, _, rfl, OwnRows.nil _ _ _ _ _, Own.nil _ _ _⟩⟩, E⟩
    · refine Sq.notF (.met rfl rfl rfl) rfl rfl ?_
      refine Sq.pickF .plain rfl rfl rfl ?_
      refine Sq.move .plain rfl rfl ?_
      refine Sq.off rfl rfl rfl rfl rfl rfl ?_
      refine Sq.off rfl rfl rfl rfl rfl rfl ?_
      refine Sq.pickT .plain rfl rfl rfl ?_
      refine Sq.move .plain rfl rfl ?_
      refine Sq.off rfl rfl rfl rfl rfl rfl ?_
      refine Sq.off rfl rfl rfl rfl rfl rfl ?_
      refine Sq.pickT .plain rfl rfl rfl ?_
      refine Sq.nil ?_
      refine Eq.next ?_
      refine Cq.thn rfl ?_
      refine Cq.seq ?_
      refine Cq.region ?_
      refine Sq.build st27 rfl rfl .plain rfl rfl one_nil rfl ?_
      refine Sq.storeAgg agg27 .plain rfl rfl (one_cons rfl (one_cons rfl (one_cons rfl one_nil))) hB19 rfl rfl (fun w768 g769 hB770 => ?_)
      have hs771 := World.grownBy.size g769
      replace E := E.grown g769 (fun k hk => by injection hk with hk; subst hk; omega)
      replace hB4 := hB4.grown g769 (by intro h; injection h with h; omega)
      replace hB11 := hB11.grown g769 (by intro h; injection h with h; omega)
      replace hB19 := hB770
      refine Sq.assign .plain rfl rfl ?_
      refine Sq.nil ?_
      refine Eq.next ?_
      refine Cq.ret ?_
      refine Eq.pastRet ?_
      refine Eq.retCell2 rfl rfl agg27 hB19 rfl rfl ?_
      have hno : prodOk a b k = false := prodOk_no (.inr (.inl hv'))
      exact ⟨⟨_, by rw [hno], by rw [if_neg (by rw [hno]; decide)]; exact ⟨_, _, rfl, OwnRows.nil _ _ _ _ _, Own.nil _ _ _⟩⟩, E⟩
  · refine Sq.notF .plain rfl rfl ?_
    refine Sq.move .plain rfl rfl ?_
    refine Sq.off rfl rfl rfl rfl rfl rfl ?_
    refine Sq.off rfl rfl rfl rfl rfl rfl ?_
    refine Sq.off rfl rfl rfl rfl rfl rfl ?_
    refine Sq.pickT .plain rfl rfl rfl ?_
    refine Sq.move .plain rfl rfl ?_
    refine Sq.off rfl rfl rfl rfl rfl rfl ?_
    refine Sq.off rfl rfl rfl rfl rfl rfl ?_
    refine Sq.pickT .plain rfl rfl rfl ?_
    refine Sq.move .plain rfl rfl ?_
    refine Sq.off rfl rfl rfl rfl rfl rfl ?_
    refine Sq.off rfl rfl rfl rfl rfl rfl ?_
    refine Sq.pickT .plain rfl rfl rfl ?_
    refine Sq.nil ?_
    refine Eq.next ?_
    refine Cq.thn rfl ?_
    refine Cq.seq ?_
    refine Cq.region ?_
    refine Sq.build st27 rfl rfl .plain rfl rfl one_nil rfl ?_
    refine Sq.storeAgg agg27 .plain rfl rfl (one_cons rfl (one_cons rfl (one_cons rfl one_nil))) hB19 rfl rfl (fun w772 g773 hB774 => ?_)
    have hs775 := World.grownBy.size g773
    replace E := E.grown g773 (fun k hk => by injection hk with hk; subst hk; omega)
    replace hB4 := hB4.grown g773 (by intro h; injection h with h; omega)
    replace hB11 := hB11.grown g773 (by intro h; injection h with h; omega)
    replace hB19 := hB774
    refine Sq.assign .plain rfl rfl ?_
    refine Sq.nil ?_
    refine Eq.next ?_
    refine Cq.ret ?_
    refine Eq.pastRet ?_
    refine Eq.retCell2 rfl rfl agg27 hB19 rfl rfl ?_
    have hno : prodOk a b k = false := prodOk_no (.inl hv)
    exact ⟨⟨_, by rw [hno], by rw [if_neg (by rw [hno]; decide)]; exact ⟨_, _, rfl, OwnRows.nil _ _ _ _ _, Own.nil _ _ _⟩⟩, E⟩

theorem prod_c_T (w0 : World) (a b : A) (nx ac nx' ac' : Value) (hnx : Rows w0 52 3 nx a.next) (hac : Bools w0 4 ac a.acc) (hnx' : Rows w0 52 3 nx' b.next) (hac' : Bools w0 4 ac' b.acc) (k : Int) (hC : prodOk a b k = true) : Ret Try.prog 21 #[Value.agg #[Value.int .i64 a.al, nx, ac], Value.agg #[Value.int .i64 b.al, nx', ac'], Value.int .i64 k] w0 (fun v w => (∃ u, v = .tuple #[u, .bool true] ∧ OwnA w w0.heap.size u (prodA a b k)) ∧ Ext w0 w) :=
  (prod_c w0 a b nx ac nx' ac' hnx hac hnx' hac' k).mono fun v w h => by rw [hC, if_pos rfl] at h; exact h
theorem prod_c_F (w0 : World) (a b : A) (nx ac nx' ac' : Value) (hnx : Rows w0 52 3 nx a.next) (hac : Bools w0 4 ac a.acc) (hnx' : Rows w0 52 3 nx' b.next) (hac' : Bools w0 4 ac' b.acc) (k : Int) (hC : prodOk a b k = false) : Ret Try.prog 21 #[Value.agg #[Value.int .i64 a.al, nx, ac], Value.agg #[Value.int .i64 b.al, nx', ac'], Value.int .i64 k] w0 (fun v w => (∃ u, v = .tuple #[u, .bool false] ∧ OwnA w w0.heap.size u (zeroA)) ∧ Ext w0 w) :=
  (prod_c w0 a b nx ac nx' ac' hnx hac hnx' hac' k).mono fun v w h => by rw [hC, if_neg (by decide)] at h; exact h

end Go.Proofs.Ytdkdpmmfebdeaaa
