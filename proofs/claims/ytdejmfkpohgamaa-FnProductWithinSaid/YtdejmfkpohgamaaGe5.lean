/-
  The texts of this proof, joined (wip/merge.py): the calculus of slots, plain mathematics, walks.
-/
import Derived.Test.YtdejmfkpohgamaaGe4
set_option linter.unusedSimpArgs false
set_option linter.unusedVariables false
namespace Go.Proofs.Ytdejmfkpohgamaa
open Go.RowKit
set_option maxHeartbeats 1000000 in
set_option maxRecDepth 100000 in
theorem prod_c (w0 : World) (a b : A) (nx ac nx' ac' : Value) (hnx : Rows w0 56 3 nx a.next) (hac : Bools w0 4 ac a.acc) (hnx' : Rows w0 56 3 nx' b.next) (hac' : Bools w0 4 ac' b.acc) (k : Int) : Ret Try.prog 16 #[Value.agg #[Value.int .i64 a.al, nx, ac], Value.agg #[Value.int .i64 b.al, nx', ac'], Value.int .i64 k] w0 (fun v w => (∃ u, v = .tuple #[u, .bool (prodOk a b k)] ∧ OwnA w w0.heap.size u (if prodOk a b k then prodA a b k else zeroA)) ∧ Ext w0 w) := by
  have E := Ext.refl w0
  refine Ret.of (args := [Value.agg #[Value.int .i64 a.al, nx, ac], Value.agg #[Value.int .i64 b.al, nx', ac'], Value.int .i64 k]) Try.func16 rfl rfl rfl ?_
  rintro _ rfl
  show Cq _ _ _ _ [(0, Value.agg #[Value.int .i64 a.al, nx, ac]), (1, Value.agg #[Value.int .i64 b.al, nx', ac']), (2, Value.int .i64 k)] _
  refine Cq.seq ?_
  refine Cq.region ?_
  refine Sq.box .plain rfl rfl (fun b1 w2 e3 hB4 hlo5 => ?_)
  have hd6 := Nat.le_trans (Below.size E) hlo5
  have hs7 := Below.size e3
  replace E := E.trans e3
  refine Sq.box .plain rfl rfl (fun b8 w9 e10 hB11 hlo12 => ?_)
  have hd13 := Nat.le_trans (Below.size E) hlo12
  have hd14 := Nat.lt_of_lt_of_le hB4.lt hlo12
  have hs15 := Below.size e10
  replace E := E.trans e10
  replace hB4 := hB4.ext e10
  refine Sq.alloc zero26 .plain rfl (fun b16 w17 e18 hB19 hlo20 => ?_)
  have hd21 := Nat.le_trans (Below.size E) hlo20
  have hd22 := Nat.lt_of_lt_of_le hB4.lt hlo20
  have hd23 := Nat.lt_of_lt_of_le hB11.lt hlo20
  have hs24 := Below.size e18
  replace E := E.trans e18
  replace hB4 := hB4.ext e18
  replace hB11 := hB11.ext e18
  refine Sq.assign .plain rfl rfl ?_
  refine Sq.nil ?_
  refine Eq.next ?_
  refine Cq.seq ?_
  refine Cq.seq ?_
  refine Cq.region ?_
  refine Sq.loadAgg agg26 .plain rfl rfl hB4 rfl ?_
  have hd28 := hB4.lt
  have hd29 := hB11.lt
  have hd30 := hB19.lt
  refine Sq.call fn22 .plain rfl rfl (valid_c _ a _ _ (hnx.ext E) (hac.ext E)) ?_
  rintro _ w26 ⟨rfl, e27⟩
  have hs31 := Below.size E
  have hs32 := Below.size e27
  replace E := E.trans e27
  replace hB4 := hB4.ext e27
  replace hB11 := hB11.ext e27
  replace hB19 := hB19.ext e27
  refine Sq.partB (fun hv => ?_) (fun hv => ?_)
  · refine Sq.notT .plain rfl rfl ?_
    refine Sq.move .plain rfl rfl ?_
    refine Sq.loadAgg agg26 (.met rfl rfl rfl) rfl rfl hB11 rfl ?_
    have hd36 := hB4.lt
    have hd37 := hB11.lt
    have hd38 := hB19.lt
    refine Sq.call fn22 (.met rfl rfl rfl) rfl rfl (valid_c _ b _ _ (hnx'.ext E) (hac'.ext E)) ?_
    rintro _ w34 ⟨rfl, e35⟩
    have hs39 := Below.size E
    have hs40 := Below.size e35
    replace E := E.trans e35
    replace hB4 := hB4.ext e35
    replace hB11 := hB11.ext e35
    replace hB19 := hB19.ext e35
    refine Sq.partB (fun hv' => ?_) (fun hv' => ?_)
    · refine Sq.notT (.met rfl rfl rfl) rfl rfl ?_
      refine Sq.pickF .plain rfl rfl rfl ?_
      refine Sq.move .plain rfl rfl ?_
      refine Sq.move (.met rfl rfl rfl) rfl rfl ?_
      refine Sq.lss (.met rfl rfl rfl) rfl rfl rfl ?_
      refine Sq.part (fun hka => ?_) (fun hka => ?_)
      · refine Sq.pickF .plain rfl rfl rfl ?_
        refine Sq.move .plain rfl rfl ?_
        refine Sq.off rfl rfl rfl rfl rfl rfl ?_
        refine Sq.off rfl rfl rfl rfl rfl rfl ?_
        refine Sq.pickT .plain rfl rfl rfl ?_
        refine Sq.nil ?_
        refine Eq.next ?_
        refine Cq.thn rfl ?_
        refine Cq.seq ?_
        refine Cq.region ?_
        refine Sq.build st26 rfl rfl .plain rfl rfl one_nil rfl ?_
        refine Sq.storeAgg agg26 .plain rfl rfl (one_cons rfl (one_cons rfl (one_cons rfl one_nil))) hB19 rfl rfl (fun w41 g42 hB43 => ?_)
        have hs44 := World.grownBy.size g42
        replace E := E.grown g42 (fun k hk => by injection hk with hk; subst hk; omega)
        replace hB19 := hB43
        refine Sq.assign .plain rfl rfl ?_
        refine Sq.nil ?_
        refine Eq.next ?_
        refine Cq.ret ?_
        refine Eq.pastRet ?_
        refine Eq.retCell2 rfl rfl agg26 hB19 rfl rfl ?_
        have hno : prodOk a b k = false := prodOk_no (.inr (.inr (by omega)))
        exact ⟨⟨_, by rw [hno], by rw [if_neg (by rw [hno]; decide)]; exact ⟨_, _, rfl, OwnRows.nil _ _ _ _ _, Own.nil _ _ _⟩⟩, E⟩
      refine Sq.pickF .plain rfl rfl rfl ?_
      refine Sq.move .plain rfl rfl ?_
      refine Sq.move (.met rfl rfl rfl) rfl rfl ?_
      refine Sq.gtr (.met rfl rfl rfl) rfl rfl rfl ?_
      refine Sq.part (fun hkb => ?_) (fun hkb => ?_)
      · refine Sq.pickF .plain rfl rfl rfl ?_
        refine Sq.nil ?_
        refine Eq.next ?_
        refine Cq.thn rfl ?_
        refine Cq.seq ?_
        refine Cq.region ?_
        refine Sq.build st26 rfl rfl .plain rfl rfl one_nil rfl ?_
        refine Sq.storeAgg agg26 .plain rfl rfl (one_cons rfl (one_cons rfl (one_cons rfl one_nil))) hB19 rfl rfl (fun w45 g46 hB47 => ?_)
        have hs48 := World.grownBy.size g46
        replace E := E.grown g46 (fun k hk => by injection hk with hk; subst hk; omega)
        replace hB19 := hB47
        refine Sq.assign .plain rfl rfl ?_
        refine Sq.nil ?_
        refine Eq.next ?_
        refine Cq.ret ?_
        refine Eq.pastRet ?_
        refine Eq.retCell2 rfl rfl agg26 hB19 rfl rfl ?_
        have hno : prodOk a b k = false := prodOk_no (.inr (.inr (by omega)))
        exact ⟨⟨_, by rw [hno], by rw [if_neg (by rw [hno]; decide)]; exact ⟨_, _, rfl, OwnRows.nil _ _ _ _ _, Own.nil _ _ _⟩⟩, E⟩
      refine Sq.pickF .plain rfl rfl rfl ?_
      refine Sq.nil ?_
      refine Eq.next ?_
      refine Cq.els rfl ?_
      refine Cq.skip ?_
      refine Eq.next ?_
      refine Cq.seq ?_
      refine Cq.cut (fun ls w => ∃ (c8 : Nat), ∃ (c9 : Nat), ∃ (t1 : Nat), ∃ (t2 : Nat), ∃ (xs : List Int), ∃ (ys0 : List Int), ls = [(2, Value.int .i64 k), (3, Value.pointer (some ⟨b1, 0, none⟩)), (4, Value.pointer (some ⟨b8, 0, none⟩)), (6, Value.pointer (some ⟨b16, 0, none⟩)), (7, Value.bool false), (8, Value.pointer (some ⟨c8, 0, none⟩)), (9, Value.pointer (some ⟨c9, 0, none⟩))] ∧ Blk w c8 57 [Value.slice (some ⟨t1, 0, none⟩) a.next.length a.next.length] ∧ Blk w c9 57 [Value.slice (some ⟨t2, 0, none⟩) b.next.length b.next.length] ∧ Blk w t1 62 (xs.map (Value.int .i64)) ∧ Blk w t2 62 (ys0.map (Value.int .i64)) ∧ Tab a xs ∧ Tab b ys0 ∧ (b1 < c8 ∧ b1 < c9 ∧ b1 < t1 ∧ b1 < t2 ∧ b8 < c8 ∧ b8 < c9 ∧ b8 < t1 ∧ b8 < t2 ∧ b16 < c8 ∧ b16 < c9 ∧ b16 < t1 ∧ b16 < t2) ∧ Ext w0 w ∧ Blk w b1 26 [Value.int .i64 a.al, nx, ac] ∧ Blk w b8 26 [Value.int .i64 b.al, nx', ac'] ∧ Blk w b16 26 [Value.int .i64 0, Value.slice none 0 0, Value.slice none 0 0]) ?_ ?_
      · refine Cq.drawS 7 (fun w' => Blk w' b1 26 [Value.int .i64 a.al, nx, ac] ∧ Blk w' b8 26 [Value.int .i64 b.al, nx', ac']) mixed (⟨hB4, hB11⟩) (fun w49 e50 hS => ?_)
        clear hS
        have hs51 := Below.size e50
        replace E := E.trans e50
        replace hB4 := hB4.ext e50
        replace hB11 := hB11.ext e50
        replace hB19 := hB19.ext e50
        refine Gq.st 0 rfl (by kernel_rfl) rfl .plain rfl (fun _ _ _ h => h) ⟨hB4, hB11⟩ (fun w' x => Still.loadAgg agg26 rfl x.1 rfl) ?_
        refine Gq.st 2 rfl (by kernel_rfl) rfl .plain rfl (fun _ _ _ h => h) ⟨hB4, hB11⟩ (fun w' x => Still.loadAgg agg26 rfl x.2 rfl) ?_
        refine Gq.three 1 4 5 rfl rfl rfl (by kernel_rfl) ?_ ?_ ?_
        · have hd60 := hB4.lt
          have hd61 := hB11.lt
          have hd62 := hB19.lt
          refine Sq.call fn48 .plain rfl rfl (tableOf_c _ a _ _ (hnx.ext E) (hac.ext E) hv) ?_
          rintro _ w53 ⟨⟨b55, xs56, rfl, hlo57, hT58, hTab59⟩, e54⟩
          have hs63 := Below.size E
          have hs64 := Below.size e54
          replace E := E.trans e54
          replace hB4 := hB4.ext e54
          replace hB11 := hB11.ext e54
          replace hB19 := hB19.ext e54
          refine Sq.nil ?_
          refine Eq.goes (fun _ => ⟨hB4, hB11⟩) ?_
          refine Gq.three 3 4 5 rfl rfl rfl (by kernel_rfl) ?_ ?_ ?_
          · have hd73 := hB4.lt
            have hd74 := hB11.lt
            have hd75 := hB19.lt
            have hd76 := hT58.lt
            refine Sq.call fn48 .plain rfl rfl (tableOf_c _ b _ _ (hnx'.ext E) (hac'.ext E) hv') ?_
            rintro _ w66 ⟨⟨b68, xs69, rfl, hlo70, hT71, hTab72⟩, e67⟩
            have hs77 := Below.size E
            have hs78 := Below.size e67
            replace E := E.trans e67
            replace hB4 := hB4.ext e67
            replace hB11 := hB11.ext e67
            replace hB19 := hB19.ext e67
            replace hT58 := hT58.ext e67
            refine Sq.nil ?_
            refine Eq.goes (fun _ => ⟨hB4, hB11⟩) ?_
            refine Gq.two 4 5 rfl rfl (by kernel_rfl) ?_ ?_
            · refine Sq.alloc1 zero57 rfl .plain rfl (fun b79 w80 e81 hB82 hlo83 => ?_)
              have hd84 := Nat.le_trans (Below.size E) hlo83
              have hd85 := Nat.lt_of_lt_of_le hB4.lt hlo83
              have hd86 := Nat.lt_of_lt_of_le hB11.lt hlo83
              have hd87 := Nat.lt_of_lt_of_le hB19.lt hlo83
              have hd88 := Nat.lt_of_lt_of_le hT58.lt hlo83
              have hd89 := Nat.lt_of_lt_of_le hT71.lt hlo83
              have hs90 := Below.size e81
              replace E := E.trans e81
              replace hB4 := hB4.ext e81
              replace hB11 := hB11.ext e81
              replace hB19 := hB19.ext e81
              replace hT58 := hT58.ext e81
              replace hT71 := hT71.ext e81
              refine Sq.nil ?_
              refine Eq.goes (fun _ => ⟨hB4, hB11⟩) ?_
              refine Gq.one 5 rfl (by kernel_rfl) ?_
              refine Sq.alloc1 zero57 rfl .plain rfl (fun b91 w92 e93 hB94 hlo95 => ?_)
              have hd96 := Nat.le_trans (Below.size E) hlo95
              have hd97 := Nat.lt_of_lt_of_le hB4.lt hlo95
              have hd98 := Nat.lt_of_lt_of_le hB11.lt hlo95
              have hd99 := Nat.lt_of_lt_of_le hB19.lt hlo95
              have hd100 := Nat.lt_of_lt_of_le hT58.lt hlo95
              have hd101 := Nat.lt_of_lt_of_le hT71.lt hlo95
              have hd102 := Nat.lt_of_lt_of_le hB82.lt hlo95
              have hs103 := Below.size e93
              replace E := E.trans e93
              replace hB4 := hB4.ext e93
              replace hB11 := hB11.ext e93
              replace hB19 := hB19.ext e93
              replace hT58 := hT58.ext e93
              replace hT71 := hT71.ext e93
              replace hB82 := hB82.ext e93
              refine Sq.nil ?_
              refine Eq.goes (fun _ => ⟨hB4, hB11⟩) ?_
              refine Gq.one 6 rfl (by kernel_rfl) ?_
              refine Sq.store one57 .plain rfl rfl rfl hB82 (by simp) (fun w104 g105 hB106 => ?_)
              have hs107 := World.grownBy.size g105
              replace E := E.grown g105 (fun k hk => by injection hk with hk; subst hk; omega)
              replace hB4 := hB4.grown g105 (by intro h; injection h with h; omega)
              replace hB11 := hB11.grown g105 (by intro h; injection h with h; omega)
              replace hB19 := hB19.grown g105 (by intro h; injection h with h; omega)
              replace hT58 := hT58.grown g105 (by intro h; injection h with h; omega)
              replace hT71 := hT71.grown g105 (by intro h; injection h with h; omega)
              replace hB94 := hB94.grown g105 (by intro h; injection h with h; omega)
              replace hB82 := hB106
              refine Sq.nil ?_
              refine Eq.goes (fun _ => ⟨hB4, hB11⟩) ?_
              refine Gq.one 7 rfl (by kernel_rfl) ?_
              refine Sq.store one57 .plain rfl rfl rfl hB94 (by simp) (fun w108 g109 hB110 => ?_)
              have hs111 := World.grownBy.size g109
              replace E := E.grown g109 (fun k hk => by injection hk with hk; subst hk; omega)
              replace hB4 := hB4.grown g109 (by intro h; injection h with h; omega)
              replace hB11 := hB11.grown g109 (by intro h; injection h with h; omega)
              replace hB19 := hB19.grown g109 (by intro h; injection h with h; omega)
              replace hT58 := hT58.grown g109 (by intro h; injection h with h; omega)
              replace hT71 := hT71.grown g109 (by intro h; injection h with h; omega)
              replace hB82 := hB82.grown g109 (by intro h; injection h with h; omega)
              replace hB94 := hB110
              refine Sq.nil ?_
              refine Eq.goes (fun h => absurd h (by decide)) ?_
              refine Gq.done (by kernel_rfl) ?_
              refine Eq.left _ ⟨b79, b91, _, _, _, _, rfl, hB82, hB94, hT58, hT71, hTab59, hTab72, by omega, E, hB4, hB11, hB19⟩ (.cons rfl (.cons rfl (.cons rfl (.cons rfl (.cons rfl (.cons rfl (.cons rfl (.nil))))))))
            refine Sq.alloc1 zero57 rfl .plain rfl (fun b112 w113 e114 hB115 hlo116 => ?_)
            have hd117 := Nat.le_trans (Below.size E) hlo116
            have hd118 := Nat.lt_of_lt_of_le hB4.lt hlo116
            have hd119 := Nat.lt_of_lt_of_le hB11.lt hlo116
            have hd120 := Nat.lt_of_lt_of_le hB19.lt hlo116
            have hd121 := Nat.lt_of_lt_of_le hT58.lt hlo116
            have hd122 := Nat.lt_of_lt_of_le hT71.lt hlo116
            have hs123 := Below.size e114
            replace E := E.trans e114
            replace hB4 := hB4.ext e114
            replace hB11 := hB11.ext e114
            replace hB19 := hB19.ext e114
            replace hT58 := hT58.ext e114
            replace hT71 := hT71.ext e114
            refine Sq.nil ?_
            refine Eq.goes (fun _ => ⟨hB4, hB11⟩) ?_
            refine Gq.one 4 rfl (by kernel_rfl) ?_
            refine Sq.alloc1 zero57 rfl .plain rfl (fun b124 w125 e126 hB127 hlo128 => ?_)
            have hd129 := Nat.le_trans (Below.size E) hlo128
            have hd130 := Nat.lt_of_lt_of_le hB4.lt hlo128
            have hd131 := Nat.lt_of_lt_of_le hB11.lt hlo128
            have hd132 := Nat.lt_of_lt_of_le hB19.lt hlo128
            have hd133 := Nat.lt_of_lt_of_le hT58.lt hlo128
            have hd134 := Nat.lt_of_lt_of_le hT71.lt hlo128
            have hd135 := Nat.lt_of_lt_of_le hB115.lt hlo128
            have hs136 := Below.size e126
            replace E := E.trans e126
            replace hB4 := hB4.ext e126
            replace hB11 := hB11.ext e126
            replace hB19 := hB19.ext e126
            replace hT58 := hT58.ext e126
            replace hT71 := hT71.ext e126
            replace hB115 := hB115.ext e126
            refine Sq.nil ?_
            refine Eq.goes (fun _ => ⟨hB4, hB11⟩) ?_
            refine Gq.one 6 rfl (by kernel_rfl) ?_
            refine Sq.store one57 .plain rfl rfl rfl hB127 (by simp) (fun w137 g138 hB139 => ?_)
            have hs140 := World.grownBy.size g138
            replace E := E.grown g138 (fun k hk => by injection hk with hk; subst hk; omega)
            replace hB4 := hB4.grown g138 (by intro h; injection h with h; omega)
            replace hB11 := hB11.grown g138 (by intro h; injection h with h; omega)
            replace hB19 := hB19.grown g138 (by intro h; injection h with h; omega)
            replace hT58 := hT58.grown g138 (by intro h; injection h with h; omega)
            replace hT71 := hT71.grown g138 (by intro h; injection h with h; omega)
            replace hB115 := hB115.grown g138 (by intro h; injection h with h; omega)
            replace hB127 := hB139
            refine Sq.nil ?_
            refine Eq.goes (fun _ => ⟨hB4, hB11⟩) ?_
            refine Gq.one 7 rfl (by kernel_rfl) ?_
            refine Sq.store one57 .plain rfl rfl rfl hB115 (by simp) (fun w141 g142 hB143 => ?_)
            have hs144 := World.grownBy.size g142
            replace E := E.grown g142 (fun k hk => by injection hk with hk; subst hk; omega)
            replace hB4 := hB4.grown g142 (by intro h; injection h with h; omega)
            replace hB11 := hB11.grown g142 (by intro h; injection h with h; omega)
            replace hB19 := hB19.grown g142 (by intro h; injection h with h; omega)
            replace hT58 := hT58.grown g142 (by intro h; injection h with h; omega)
            replace hT71 := hT71.grown g142 (by intro h; injection h with h; omega)
            replace hB127 := hB127.grown g142 (by intro h; injection h with h; omega)
            replace hB115 := hB143
            refine Sq.nil ?_
            refine Eq.goes (fun h => absurd h (by decide)) ?_
            refine Gq.done (by kernel_rfl) ?_
            refine Eq.left _ ⟨b124, b112, _, _, _, _, rfl, hB127, hB115, hT58, hT71, hTab59, hTab72, by omega, E, hB4, hB11, hB19⟩ (.cons rfl (.cons rfl (.cons rfl (.cons rfl (.cons rfl (.cons rfl (.cons rfl (.nil))))))))
          · refine Sq.alloc1 zero57 rfl .plain rfl (fun b145 w146 e147 hB148 hlo149 => ?_)
            have hd150 := Nat.le_trans (Below.size E) hlo149
            have hd151 := Nat.lt_of_lt_of_le hB4.lt hlo149
            have hd152 := Nat.lt_of_lt_of_le hB11.lt hlo149
            have hd153 := Nat.lt_of_lt_of_le hB19.lt hlo149
            have hd154 := Nat.lt_of_lt_of_le hT58.lt hlo149
            have hs155 := Below.size e147
            replace E := E.trans e147
            replace hB4 := hB4.ext e147
            replace hB11 := hB11.ext e147
            replace hB19 := hB19.ext e147
            replace hT58 := hT58.ext e147
            refine Sq.nil ?_
            refine Eq.goes (fun _ => ⟨hB4, hB11⟩) ?_
            refine Gq.two 3 5 rfl rfl (by kernel_rfl) ?_ ?_
            · have hd164 := hB4.lt
              have hd165 := hB11.lt
              have hd166 := hB19.lt
              have hd167 := hT58.lt
              have hd168 := hB148.lt
              refine Sq.call fn48 .plain rfl rfl (tableOf_c _ b _ _ (hnx'.ext E) (hac'.ext E) hv') ?_
              rintro _ w157 ⟨⟨b159, xs160, rfl, hlo161, hT162, hTab163⟩, e158⟩
              have hs169 := Below.size E
              have hs170 := Below.size e158
              replace E := E.trans e158
              replace hB4 := hB4.ext e158
              replace hB11 := hB11.ext e158
              replace hB19 := hB19.ext e158
              replace hT58 := hT58.ext e158
              replace hB148 := hB148.ext e158
              refine Sq.nil ?_
              refine Eq.goes (fun _ => ⟨hB4, hB11⟩) ?_
              refine Gq.one 5 rfl (by kernel_rfl) ?_
              refine Sq.alloc1 zero57 rfl .plain rfl (fun b171 w172 e173 hB174 hlo175 => ?_)
              have hd176 := Nat.le_trans (Below.size E) hlo175
              have hd177 := Nat.lt_of_lt_of_le hB4.lt hlo175
              have hd178 := Nat.lt_of_lt_of_le hB11.lt hlo175
              have hd179 := Nat.lt_of_lt_of_le hB19.lt hlo175
              have hd180 := Nat.lt_of_lt_of_le hT58.lt hlo175
              have hd181 := Nat.lt_of_lt_of_le hB148.lt hlo175
              have hd182 := Nat.lt_of_lt_of_le hT162.lt hlo175
              have hs183 := Below.size e173
              replace E := E.trans e173
              replace hB4 := hB4.ext e173
              replace hB11 := hB11.ext e173
              replace hB19 := hB19.ext e173
              replace hT58 := hT58.ext e173
              replace hB148 := hB148.ext e173
              replace hT162 := hT162.ext e173
              refine Sq.nil ?_
              refine Eq.goes (fun _ => ⟨hB4, hB11⟩) ?_
              refine Gq.one 6 rfl (by kernel_rfl) ?_
              refine Sq.store one57 .plain rfl rfl rfl hB148 (by simp) (fun w184 g185 hB186 => ?_)
              have hs187 := World.grownBy.size g185
              replace E := E.grown g185 (fun k hk => by injection hk with hk; subst hk; omega)
              replace hB4 := hB4.grown g185 (by intro h; injection h with h; omega)
              replace hB11 := hB11.grown g185 (by intro h; injection h with h; omega)
              replace hB19 := hB19.grown g185 (by intro h; injection h with h; omega)
              replace hT58 := hT58.grown g185 (by intro h; injection h with h; omega)
              replace hT162 := hT162.grown g185 (by intro h; injection h with h; omega)
              replace hB174 := hB174.grown g185 (by intro h; injection h with h; omega)
              replace hB148 := hB186
              refine Sq.nil ?_
              refine Eq.goes (fun _ => ⟨hB4, hB11⟩) ?_
              refine Gq.one 7 rfl (by kernel_rfl) ?_
              refine Sq.store one57 .plain rfl rfl rfl hB174 (by simp) (fun w188 g189 hB190 => ?_)
              have hs191 := World.grownBy.size g189
              replace E := E.grown g189 (fun k hk => by injection hk with hk; subst hk; omega)
              replace hB4 := hB4.grown g189 (by intro h; injection h with h; omega)
              replace hB11 := hB11.grown g189 (by intro h; injection h with h; omega)
              replace hB19 := hB19.grown g189 (by intro h; injection h with h; omega)
              replace hT58 := hT58.grown g189 (by intro h; injection h with h; omega)
              replace hB148 := hB148.grown g189 (by intro h; injection h with h; omega)
              replace hT162 := hT162.grown g189 (by intro h; injection h with h; omega)
              replace hB174 := hB190
              refine Sq.nil ?_
              refine Eq.goes (fun h => absurd h (by decide)) ?_
              refine Gq.done (by kernel_rfl) ?_
              refine Eq.left _ ⟨b145, b171, _, _, _, _, rfl, hB148, hB174, hT58, hT162, hTab59, hTab163, by omega, E, hB4, hB11, hB19⟩ (.cons rfl (.cons rfl (.cons rfl (.cons rfl (.cons rfl (.cons rfl (.cons rfl (.nil))))))))
            refine Sq.alloc1 zero57 rfl .plain rfl (fun b192 w193 e194 hB195 hlo196 => ?_)
            have hd197 := Nat.le_trans (Below.size E) hlo196
            have hd198 := Nat.lt_of_lt_of_le hB4.lt hlo196
            have hd199 := Nat.lt_of_lt_of_le hB11.lt hlo196
            have hd200 := Nat.lt_of_lt_of_le hB19.lt hlo196
            have hd201 := Nat.lt_of_lt_of_le hT58.lt hlo196
            have hd202 := Nat.lt_of_lt_of_le hB148.lt hlo196
            have hs203 := Below.size e194
            replace E := E.trans e194
            replace hB4 := hB4.ext e194
            replace hB11 := hB11.ext e194
            replace hB19 := hB19.ext e194
            replace hT58 := hT58.ext e194
            replace hB148 := hB148.ext e194
            refine Sq.nil ?_
            refine Eq.goes (fun _ => ⟨hB4, hB11⟩) ?_
            refine Gq.one 3 rfl (by kernel_rfl) ?_
            have hd212 := hB4.lt
            have hd213 := hB11.lt
            have hd214 := hB19.lt
            have hd215 := hT58.lt
            have hd216 := hB148.lt
            have hd217 := hB195.lt
            refine Sq.call fn48 .plain rfl rfl (tableOf_c _ b _ _ (hnx'.ext E) (hac'.ext E) hv') ?_
            rintro _ w205 ⟨⟨b207, xs208, rfl, hlo209, hT210, hTab211⟩, e206⟩
            have hs218 := Below.size E
            have hs219 := Below.size e206
            replace E := E.trans e206
            replace hB4 := hB4.ext e206
            replace hB11 := hB11.ext e206
            replace hB19 := hB19.ext e206
            replace hT58 := hT58.ext e206
            replace hB148 := hB148.ext e206
            replace hB195 := hB195.ext e206
            refine Sq.nil ?_
            refine Eq.goes (fun _ => ⟨hB4, hB11⟩) ?_
            refine Gq.one 6 rfl (by kernel_rfl) ?_
            refine Sq.store one57 .plain rfl rfl rfl hB148 (by simp) (fun w220 g221 hB222 => ?_)
            have hs223 := World.grownBy.size g221
            replace E := E.grown g221 (fun k hk => by injection hk with hk; subst hk; omega)
            replace hB4 := hB4.grown g221 (by intro h; injection h with h; omega)
            replace hB11 := hB11.grown g221 (by intro h; injection h with h; omega)
            replace hB19 := hB19.grown g221 (by intro h; injection h with h; omega)
            replace hT58 := hT58.grown g221 (by intro h; injection h with h; omega)
            replace hB195 := hB195.grown g221 (by intro h; injection h with h; omega)
            replace hT210 := hT210.grown g221 (by intro h; injection h with h; omega)
            replace hB148 := hB222
            refine Sq.nil ?_
            refine Eq.goes (fun _ => ⟨hB4, hB11⟩) ?_
            refine Gq.one 7 rfl (by kernel_rfl) ?_
            refine Sq.store one57 .plain rfl rfl rfl hB195 (by simp) (fun w224 g225 hB226 => ?_)
            have hs227 := World.grownBy.size g225
            replace E := E.grown g225 (fun k hk => by injection hk with hk; subst hk; omega)
            replace hB4 := hB4.grown g225 (by intro h; injection h with h; omega)
            replace hB11 := hB11.grown g225 (by intro h; injection h with h; omega)
            replace hB19 := hB19.grown g225 (by intro h; injection h with h; omega)
            replace hT58 := hT58.grown g225 (by intro h; injection h with h; omega)
            replace hB148 := hB148.grown g225 (by intro h; injection h with h; omega)
            replace hT210 := hT210.grown g225 (by intro h; injection h with h; omega)
            replace hB195 := hB226
            refine Sq.nil ?_
            refine Eq.goes (fun h => absurd h (by decide)) ?_
            refine Gq.done (by kernel_rfl) ?_
            refine Eq.left _ ⟨b145, b192, _, _, _, _, rfl, hB148, hB195, hT58, hT210, hTab59, hTab211, by omega, E, hB4, hB11, hB19⟩ (.cons rfl (.cons rfl (.cons rfl (.cons rfl (.cons rfl (.cons rfl (.cons rfl (.nil))))))))
          refine Sq.alloc1 zero57 rfl .plain rfl (fun b228 w229 e230 hB231 hlo232 => ?_)
          have hd233 := Nat.le_trans (Below.size E) hlo232
          have hd234 := Nat.lt_of_lt_of_le hB4.lt hlo232
          have hd235 := Nat.lt_of_lt_of_le hB11.lt hlo232
          have hd236 := Nat.lt_of_lt_of_le hB19.lt hlo232
          have hd237 := Nat.lt_of_lt_of_le hT58.lt hlo232
          have hs238 := Below.size e230
          replace E := E.trans e230
          replace hB4 := hB4.ext e230
          replace hB11 := hB11.ext e230
          replace hB19 := hB19.ext e230
          replace hT58 := hT58.ext e230
          refine Sq.nil ?_
          refine Eq.goes (fun _ => ⟨hB4, hB11⟩) ?_
          refine Gq.two 3 4 rfl rfl (by kernel_rfl) ?_ ?_
          · have hd247 := hB4.lt
            have hd248 := hB11.lt
            have hd249 := hB19.lt
            have hd250 := hT58.lt
            have hd251 := hB231.lt
            refine Sq.call fn48 .plain rfl rfl (tableOf_c _ b _ _ (hnx'.ext E) (hac'.ext E) hv') ?_
            rintro _ w240 ⟨⟨b242, xs243, rfl, hlo244, hT245, hTab246⟩, e241⟩
            have hs252 := Below.size E
            have hs253 := Below.size e241
            replace E := E.trans e241
            replace hB4 := hB4.ext e241
            replace hB11 := hB11.ext e241
            replace hB19 := hB19.ext e241
            replace hT58 := hT58.ext e241
            replace hB231 := hB231.ext e241
            refine Sq.nil ?_
            refine Eq.goes (fun _ => ⟨hB4, hB11⟩) ?_
            refine Gq.one 4 rfl (by kernel_rfl) ?_
            refine Sq.alloc1 zero57 rfl .plain rfl (fun b254 w255 e256 hB257 hlo258 => ?_)
            have hd259 := Nat.le_trans (Below.size E) hlo258
            have hd260 := Nat.lt_of_lt_of_le hB4.lt hlo258
            have hd261 := Nat.lt_of_lt_of_le hB11.lt hlo258
            have hd262 := Nat.lt_of_lt_of_le hB19.lt hlo258
            have hd263 := Nat.lt_of_lt_of_le hT58.lt hlo258
            have hd264 := Nat.lt_of_lt_of_le hB231.lt hlo258
            have hd265 := Nat.lt_of_lt_of_le hT245.lt hlo258
            have hs266 := Below.size e256
            replace E := E.trans e256
            replace hB4 := hB4.ext e256
            replace hB11 := hB11.ext e256
            replace hB19 := hB19.ext e256
            replace hT58 := hT58.ext e256
            replace hB231 := hB231.ext e256
            replace hT245 := hT245.ext e256
            refine Sq.nil ?_
            refine Eq.goes (fun _ => ⟨hB4, hB11⟩) ?_
            refine Gq.one 6 rfl (by kernel_rfl) ?_
            refine Sq.store one57 .plain rfl rfl rfl hB257 (by simp) (fun w267 g268 hB269 => ?_)
            have hs270 := World.grownBy.size g268
            replace E := E.grown g268 (fun k hk => by injection hk with hk; subst hk; omega)
            replace hB4 := hB4.grown g268 (by intro h; injection h with h; omega)
            replace hB11 := hB11.grown g268 (by intro h; injection h with h; omega)
            replace hB19 := hB19.grown g268 (by intro h; injection h with h; omega)
            replace hT58 := hT58.grown g268 (by intro h; injection h with h; omega)
            replace hB231 := hB231.grown g268 (by intro h; injection h with h; omega)
            replace hT245 := hT245.grown g268 (by intro h; injection h with h; omega)
            replace hB257 := hB269
            refine Sq.nil ?_
            refine Eq.goes (fun _ => ⟨hB4, hB11⟩) ?_
            refine Gq.one 7 rfl (by kernel_rfl) ?_
            refine Sq.store one57 .plain rfl rfl rfl hB231 (by simp) (fun w271 g272 hB273 => ?_)
            have hs274 := World.grownBy.size g272
            replace E := E.grown g272 (fun k hk => by injection hk with hk; subst hk; omega)
            replace hB4 := hB4.grown g272 (by intro h; injection h with h; omega)
            replace hB11 := hB11.grown g272 (by intro h; injection h with h; omega)
            replace hB19 := hB19.grown g272 (by intro h; injection h with h; omega)
            replace hT58 := hT58.grown g272 (by intro h; injection h with h; omega)
            replace hT245 := hT245.grown g272 (by intro h; injection h with h; omega)
            replace hB257 := hB257.grown g272 (by intro h; injection h with h; omega)
            replace hB231 := hB273
            refine Sq.nil ?_
            refine Eq.goes (fun h => absurd h (by decide)) ?_
            refine Gq.done (by kernel_rfl) ?_
            refine Eq.left _ ⟨b254, b228, _, _, _, _, rfl, hB257, hB231, hT58, hT245, hTab59, hTab246, by omega, E, hB4, hB11, hB19⟩ (.cons rfl (.cons rfl (.cons rfl (.cons rfl (.cons rfl (.cons rfl (.cons rfl (.nil))))))))
          refine Sq.alloc1 zero57 rfl .plain rfl (fun b275 w276 e277 hB278 hlo279 => ?_)
          have hd280 := Nat.le_trans (Below.size E) hlo279
          have hd281 := Nat.lt_of_lt_of_le hB4.lt hlo279
          have hd282 := Nat.lt_of_lt_of_le hB11.lt hlo279
          have hd283 := Nat.lt_of_lt_of_le hB19.lt hlo279
          have hd284 := Nat.lt_of_lt_of_le hT58.lt hlo279
          have hd285 := Nat.lt_of_lt_of_le hB231.lt hlo279
          have hs286 := Below.size e277
          replace E := E.trans e277
          replace hB4 := hB4.ext e277
          replace hB11 := hB11.ext e277
          replace hB19 := hB19.ext e277
          replace hT58 := hT58.ext e277
          replace hB231 := hB231.ext e277
          refine Sq.nil ?_
          refine Eq.goes (fun _ => ⟨hB4, hB11⟩) ?_
          refine Gq.one 3 rfl (by kernel_rfl) ?_
          have hd295 := hB4.lt
          have hd296 := hB11.lt
          have hd297 := hB19.lt
          have hd298 := hT58.lt
          have hd299 := hB231.lt
          have hd300 := hB278.lt
          refine Sq.call fn48 .plain rfl rfl (tableOf_c _ b _ _ (hnx'.ext E) (hac'.ext E) hv') ?_
          rintro _ w288 ⟨⟨b290, xs291, rfl, hlo292, hT293, hTab294⟩, e289⟩
          have hs301 := Below.size E
          have hs302 := Below.size e289
          replace E := E.trans e289
          replace hB4 := hB4.ext e289
          replace hB11 := hB11.ext e289
          replace hB19 := hB19.ext e289
          replace hT58 := hT58.ext e289
          replace hB231 := hB231.ext e289
          replace hB278 := hB278.ext e289
          refine Sq.nil ?_
          refine Eq.goes (fun _ => ⟨hB4, hB11⟩) ?_
          refine Gq.one 6 rfl (by kernel_rfl) ?_
          refine Sq.store one57 .plain rfl rfl rfl hB278 (by simp) (fun w303 g304 hB305 => ?_)
          have hs306 := World.grownBy.size g304
          replace E := E.grown g304 (fun k hk => by injection hk with hk; subst hk; omega)
          replace hB4 := hB4.grown g304 (by intro h; injection h with h; omega)
          replace hB11 := hB11.grown g304 (by intro h; injection h with h; omega)
          replace hB19 := hB19.grown g304 (by intro h; injection h with h; omega)
          replace hT58 := hT58.grown g304 (by intro h; injection h with h; omega)
          replace hB231 := hB231.grown g304 (by intro h; injection h with h; omega)
          replace hT293 := hT293.grown g304 (by intro h; injection h with h; omega)
          replace hB278 := hB305
          refine Sq.nil ?_
          refine Eq.goes (fun _ => ⟨hB4, hB11⟩) ?_
          refine Gq.one 7 rfl (by kernel_rfl) ?_
          refine Sq.store one57 .plain rfl rfl rfl hB231 (by simp) (fun w307 g308 hB309 => ?_)
          have hs310 := World.grownBy.size g308
          replace E := E.grown g308 (fun k hk => by injection hk with hk; subst hk; omega)
          replace hB4 := hB4.grown g308 (by intro h; injection h with h; omega)
          replace hB11 := hB11.grown g308 (by intro h; injection h with h; omega)
          replace hB19 := hB19.grown g308 (by intro h; injection h with h; omega)
          replace hT58 := hT58.grown g308 (by intro h; injection h with h; omega)
          replace hB278 := hB278.grown g308 (by intro h; injection h with h; omega)
          replace hT293 := hT293.grown g308 (by intro h; injection h with h; omega)
          replace hB231 := hB309
          refine Sq.nil ?_
          refine Eq.goes (fun h => absurd h (by decide)) ?_
          refine Gq.done (by kernel_rfl) ?_
          refine Eq.left _ ⟨b275, b228, _, _, _, _, rfl, hB278, hB231, hT58, hT293, hTab59, hTab294, by omega, E, hB4, hB11, hB19⟩ (.cons rfl (.cons rfl (.cons rfl (.cons rfl (.cons rfl (.cons rfl (.cons rfl (.nil))))))))
        · refine Sq.alloc1 zero57 rfl .plain rfl (fun b311 w312 e313 hB314 hlo315 => ?_)
          have hd316 := Nat.le_trans (Below.size E) hlo315
          have hd317 := Nat.lt_of_lt_of_le hB4.lt hlo315
          have hd318 := Nat.lt_of_lt_of_le hB11.lt hlo315
          have hd319 := Nat.lt_of_lt_of_le hB19.lt hlo315
          have hs320 := Below.size e313
          replace E := E.trans e313
          replace hB4 := hB4.ext e313
          replace hB11 := hB11.ext e313
          replace hB19 := hB19.ext e313
          refine Sq.nil ?_
          refine Eq.goes (fun _ => ⟨hB4, hB11⟩) ?_
          refine Gq.two 1 5 rfl rfl (by kernel_rfl) ?_ ?_
          · have hd329 := hB4.lt
            have hd330 := hB11.lt
            have hd331 := hB19.lt
            have hd332 := hB314.lt
            refine Sq.call fn48 .plain rfl rfl (tableOf_c _ a _ _ (hnx.ext E) (hac.ext E) hv) ?_
            rintro _ w322 ⟨⟨b324, xs325, rfl, hlo326, hT327, hTab328⟩, e323⟩
            have hs333 := Below.size E
            have hs334 := Below.size e323
            replace E := E.trans e323
            replace hB4 := hB4.ext e323
            replace hB11 := hB11.ext e323
            replace hB19 := hB19.ext e323
            replace hB314 := hB314.ext e323
            refine Sq.nil ?_
            refine Eq.goes (fun _ => ⟨hB4, hB11⟩) ?_
            refine Gq.two 3 5 rfl rfl (by kernel_rfl) ?_ ?_
            · have hd343 := hB4.lt
              have hd344 := hB11.lt
              have hd345 := hB19.lt
              have hd346 := hB314.lt
              have hd347 := hT327.lt
              refine Sq.call fn48 .plain rfl rfl (tableOf_c _ b _ _ (hnx'.ext E) (hac'.ext E) hv') ?_
              rintro _ w336 ⟨⟨b338, xs339, rfl, hlo340, hT341, hTab342⟩, e337⟩
              have hs348 := Below.size E
              have hs349 := Below.size e337
              replace E := E.trans e337
              replace hB4 := hB4.ext e337
              replace hB11 := hB11.ext e337
              replace hB19 := hB19.ext e337
              replace hB314 := hB314.ext e337
              replace hT327 := hT327.ext e337
              refine Sq.nil ?_
              refine Eq.goes (fun _ => ⟨hB4, hB11⟩) ?_
              refine Gq.one 5 rfl (by kernel_rfl) ?_
              refine Sq.alloc1 zero57 rfl .plain rfl (fun b350 w351 e352 hB353 hlo354 => ?_)
              have hd355 := Nat.le_trans (Below.size E) hlo354
              have hd356 := Nat.lt_of_lt_of_le hB4.lt hlo354
              have hd357 := Nat.lt_of_lt_of_le hB11.lt hlo354
              have hd358 := Nat.lt_of_lt_of_le hB19.lt hlo354
              have hd359 := Nat.lt_of_lt_of_le hB314.lt hlo354
              have hd360 := Nat.lt_of_lt_of_le hT327.lt hlo354
              have hd361 := Nat.lt_of_lt_of_le hT341.lt hlo354
              have hs362 := Below.size e352
              replace E := E.trans e352
              replace hB4 := hB4.ext e352
              replace hB11 := hB11.ext e352
              replace hB19 := hB19.ext e352
              replace hB314 := hB314.ext e352
              replace hT327 := hT327.ext e352
              replace hT341 := hT341.ext e352
              refine Sq.nil ?_
              refine Eq.goes (fun _ => ⟨hB4, hB11⟩) ?_
              refine Gq.one 6 rfl (by kernel_rfl) ?_
              refine Sq.store one57 .plain rfl rfl rfl hB314 (by simp) (fun w363 g364 hB365 => ?_)
              have hs366 := World.grownBy.size g364
              replace E := E.grown g364 (fun k hk => by injection hk with hk; subst hk; omega)
              replace hB4 := hB4.grown g364 (by intro h; injection h with h; omega)
              replace hB11 := hB11.grown g364 (by intro h; injection h with h; omega)
              replace hB19 := hB19.grown g364 (by intro h; injection h with h; omega)
              replace hT327 := hT327.grown g364 (by intro h; injection h with h; omega)
              replace hT341 := hT341.grown g364 (by intro h; injection h with h; omega)
              replace hB353 := hB353.grown g364 (by intro h; injection h with h; omega)
              replace hB314 := hB365
              refine Sq.nil ?_
              refine Eq.goes (fun _ => ⟨hB4, hB11⟩) ?_
              refine Gq.one 7 rfl (by kernel_rfl) ?_
              refine Sq.store one57 .plain rfl rfl rfl hB353 (by simp) (fun w367 g368 hB369 => ?_)
              have hs370 := World.grownBy.size g368
              replace E := E.grown g368 (fun k hk => by injection hk with hk; subst hk; omega)
              replace hB4 := hB4.grown g368 (by intro h; injection h with h; omega)
              replace hB11 := hB11.grown g368 (by intro h; injection h with h; omega)
              replace hB19 := hB19.grown g368 (by intro h; injection h with h; omega)
              replace hB314 := hB314.grown g368 (by intro h; injection h with h; omega)
              replace hT327 := hT327.grown g368 (by intro h; injection h with h; omega)
              replace hT341 := hT341.grown g368 (by intro h; injection h with h; omega)
              replace hB353 := hB369
              refine Sq.nil ?_
              refine Eq.goes (fun h => absurd h (by decide)) ?_
              refine Gq.done (by kernel_rfl) ?_
              refine Eq.left _ ⟨b311, b350, _, _, _, _, rfl, hB314, hB353, hT327, hT341, hTab328, hTab342, by omega, E, hB4, hB11, hB19⟩ (.cons rfl (.cons rfl (.cons rfl (.cons rfl (.cons rfl (.cons rfl (.cons rfl (.nil))))))))
            refine Sq.alloc1 zero57 rfl .plain rfl (fun b371 w372 e373 hB374 hlo375 => ?_)
            have hd376 := Nat.le_trans (Below.size E) hlo375
            have hd377 := Nat.lt_of_lt_of_le hB4.lt hlo375
            have hd378 := Nat.lt_of_lt_of_le hB11.lt hlo375
            have hd379 := Nat.lt_of_lt_of_le hB19.lt hlo375
            have hd380 := Nat.lt_of_lt_of_le hB314.lt hlo375
            have hd381 := Nat.lt_of_lt_of_le hT327.lt hlo375
            have hs382 := Below.size e373
            replace E := E.trans e373
            replace hB4 := hB4.ext e373
            replace hB11 := hB11.ext e373
            replace hB19 := hB19.ext e373
            replace hB314 := hB314.ext e373
            replace hT327 := hT327.ext e373
            refine Sq.nil ?_
            refine Eq.goes (fun _ => ⟨hB4, hB11⟩) ?_
            refine Gq.one 3 rfl (by kernel_rfl) ?_
            have hd391 := hB4.lt
            have hd392 := hB11.lt
            have hd393 := hB19.lt
            have hd394 := hB314.lt
            have hd395 := hT327.lt
            have hd396 := hB374.lt
            refine Sq.call fn48 .plain rfl rfl (tableOf_c _ b _ _ (hnx'.ext E) (hac'.ext E) hv') ?_
            rintro _ w384 ⟨⟨b386, xs387, rfl, hlo388, hT389, hTab390⟩, e385⟩
            have hs397 := Below.size E
            have hs398 := Below.size e385
            replace E := E.trans e385
            replace hB4 := hB4.ext e385
            replace hB11 := hB11.ext e385
            replace hB19 := hB19.ext e385
            replace hB314 := hB314.ext e385
            replace hT327 := hT327.ext e385
            replace hB374 := hB374.ext e385
            refine Sq.nil ?_
            refine Eq.goes (fun _ => ⟨hB4, hB11⟩) ?_
            refine Gq.one 6 rfl (by kernel_rfl) ?_
            refine Sq.store one57 .plain rfl rfl rfl hB314 (by simp) (fun w399 g400 hB401 => ?_)
            have hs402 := World.grownBy.size g400
            replace E := E.grown g400 (fun k hk => by injection hk with hk; subst hk; omega)
            replace hB4 := hB4.grown g400 (by intro h; injection h with h; omega)
            replace hB11 := hB11.grown g400 (by intro h; injection h with h; omega)
            replace hB19 := hB19.grown g400 (by intro h; injection h with h; omega)
            replace hT327 := hT327.grown g400 (by intro h; injection h with h; omega)
            replace hB374 := hB374.grown g400 (by intro h; injection h with h; omega)
            replace hT389 := hT389.grown g400 (by intro h; injection h with h; omega)
            replace hB314 := hB401
            refine Sq.nil ?_
            refine Eq.goes (fun _ => ⟨hB4, hB11⟩) ?_
            refine Gq.one 7 rfl (by kernel_rfl) ?_
            refine Sq.store one57 .plain rfl rfl rfl hB374 (by simp) (fun w403 g404 hB405 => ?_)
            have hs406 := World.grownBy.size g404
            replace E := E.grown g404 (fun k hk => by injection hk with hk; subst hk; omega)
            replace hB4 := hB4.grown g404 (by intro h; injection h with h; omega)
            replace hB11 := hB11.grown g404 (by intro h; injection h with h; omega)
            replace hB19 := hB19.grown g404 (by intro h; injection h with h; omega)
            replace hB314 := hB314.grown g404 (by intro h; injection h with h; omega)
            replace hT327 := hT327.grown g404 (by intro h; injection h with h; omega)
            replace hT389 := hT389.grown g404 (by intro h; injection h with h; omega)
            replace hB374 := hB405
            refine Sq.nil ?_
            refine Eq.goes (fun h => absurd h (by decide)) ?_
            refine Gq.done (by kernel_rfl) ?_
            refine Eq.left _ ⟨b311, b371, _, _, _, _, rfl, hB314, hB374, hT327, hT389, hTab328, hTab390, by omega, E, hB4, hB11, hB19⟩ (.cons rfl (.cons rfl (.cons rfl (.cons rfl (.cons rfl (.cons rfl (.cons rfl (.nil))))))))
          refine Sq.alloc1 zero57 rfl .plain rfl (fun b407 w408 e409 hB410 hlo411 => ?_)
          have hd412 := Nat.le_trans (Below.size E) hlo411
          have hd413 := Nat.lt_of_lt_of_le hB4.lt hlo411
          have hd414 := Nat.lt_of_lt_of_le hB11.lt hlo411
          have hd415 := Nat.lt_of_lt_of_le hB19.lt hlo411
          have hd416 := Nat.lt_of_lt_of_le hB314.lt hlo411
          have hs417 := Below.size e409
          replace E := E.trans e409
          replace hB4 := hB4.ext e409
          replace hB11 := hB11.ext e409
          replace hB19 := hB19.ext e409
          replace hB314 := hB314.ext e409
          refine Sq.nil ?_
          refine Eq.goes (fun _ => ⟨hB4, hB11⟩) ?_
          refine Gq.one 1 rfl (by kernel_rfl) ?_
          have hd426 := hB4.lt
          have hd427 := hB11.lt
          have hd428 := hB19.lt
          have hd429 := hB314.lt
          have hd430 := hB410.lt
          refine Sq.call fn48 .plain rfl rfl (tableOf_c _ a _ _ (hnx.ext E) (hac.ext E) hv) ?_
          rintro _ w419 ⟨⟨b421, xs422, rfl, hlo423, hT424, hTab425⟩, e420⟩
          have hs431 := Below.size E
          have hs432 := Below.size e420
          replace E := E.trans e420
          replace hB4 := hB4.ext e420
          replace hB11 := hB11.ext e420
          replace hB19 := hB19.ext e420
          replace hB314 := hB314.ext e420
          replace hB410 := hB410.ext e420
          refine Sq.nil ?_
          refine Eq.goes (fun _ => ⟨hB4, hB11⟩) ?_
          refine Gq.one 3 rfl (by kernel_rfl) ?_
          have hd441 := hB4.lt
          have hd442 := hB11.lt
          have hd443 := hB19.lt
          have hd444 := hB314.lt
          have hd445 := hB410.lt
          have hd446 := hT424.lt
          refine Sq.call fn48 .plain rfl rfl (tableOf_c _ b _ _ (hnx'.ext E) (hac'.ext E) hv') ?_
          rintro _ w434 ⟨⟨b436, xs437, rfl, hlo438, hT439, hTab440⟩, e435⟩
          have hs447 := Below.size E
          have hs448 := Below.size e435
          replace E := E.trans e435
          replace hB4 := hB4.ext e435
          replace hB11 := hB11.ext e435
          replace hB19 := hB19.ext e435
          replace hB314 := hB314.ext e435
          replace hB410 := hB410.ext e435
          replace hT424 := hT424.ext e435
          refine Sq.nil ?_
          refine Eq.goes (fun _ => ⟨hB4, hB11⟩) ?_
          refine Gq.one 6 rfl (by kernel_rfl) ?_
          refine Sq.store one57 .plain rfl rfl rfl hB314 (by simp) (fun w449 g450 hB451 => ?_)
          have hs452 := World.grownBy.size g450
          replace E := E.grown g450 (fun k hk => by injection hk with hk; subst hk; omega)
          replace hB4 := hB4.grown g450 (by intro h; injection h with h; omega)
          replace hB11 := hB11.grown g450 (by intro h; injection h with h; omega)
          replace hB19 := hB19.grown g450 (by intro h; injection h with h; omega)
          replace hB410 := hB410.grown g450 (by intro h; injection h with h; omega)
          replace hT424 := hT424.grown g450 (by intro h; injection h with h; omega)
          replace hT439 := hT439.grown g450 (by intro h; injection h with h; omega)
          replace hB314 := hB451
          refine Sq.nil ?_
          refine Eq.goes (fun _ => ⟨hB4, hB11⟩) ?_
          refine Gq.one 7 rfl (by kernel_rfl) ?_
          refine Sq.store one57 .plain rfl rfl rfl hB410 (by simp) (fun w453 g454 hB455 => ?_)
          have hs456 := World.grownBy.size g454
          replace E := E.grown g454 (fun k hk => by injection hk with hk; subst hk; omega)
          replace hB4 := hB4.grown g454 (by intro h; injection h with h; omega)
          replace hB11 := hB11.grown g454 (by intro h; injection h with h; omega)
          replace hB19 := hB19.grown g454 (by intro h; injection h with h; omega)
          replace hB314 := hB314.grown g454 (by intro h; injection h with h; omega)
          replace hT424 := hT424.grown g454 (by intro h; injection h with h; omega)
          replace hT439 := hT439.grown g454 (by intro h; injection h with h; omega)
          replace hB410 := hB455
          refine Sq.nil ?_
          refine Eq.goes (fun h => absurd h (by decide)) ?_
          refine Gq.done (by kernel_rfl) ?_
          refine Eq.left _ ⟨b311, b407, _, _, _, _, rfl, hB314, hB410, hT424, hT439, hTab425, hTab440, by omega, E, hB4, hB11, hB19⟩ (.cons rfl (.cons rfl (.cons rfl (.cons rfl (.cons rfl (.cons rfl (.cons rfl (.nil))))))))
        refine Sq.alloc1 zero57 rfl .plain rfl (fun b457 w458 e459 hB460 hlo461 => ?_)
        have hd462 := Nat.le_trans (Below.size E) hlo461
        have hd463 := Nat.lt_of_lt_of_le hB4.lt hlo461
        have hd464 := Nat.lt_of_lt_of_le hB11.lt hlo461
        have hd465 := Nat.lt_of_lt_of_le hB19.lt hlo461
        have hs466 := Below.size e459
        replace E := E.trans e459
        replace hB4 := hB4.ext e459
        replace hB11 := hB11.ext e459
        replace hB19 := hB19.ext e459
        refine Sq.nil ?_
        refine Eq.goes (fun _ => ⟨hB4, hB11⟩) ?_
        refine Gq.two 1 4 rfl rfl (by kernel_rfl) ?_ ?_
        · have hd475 := hB4.lt
          have hd476 := hB11.lt
          have hd477 := hB19.lt
          have hd478 := hB460.lt
          refine Sq.call fn48 .plain rfl rfl (tableOf_c _ a _ _ (hnx.ext E) (hac.ext E) hv) ?_
          rintro _ w468 ⟨⟨b470, xs471, rfl, hlo472, hT473, hTab474⟩, e469⟩
          have hs479 := Below.size E
          have hs480 := Below.size e469
          replace E := E.trans e469
          replace hB4 := hB4.ext e469
          replace hB11 := hB11.ext e469
          replace hB19 := hB19.ext e469
          replace hB460 := hB460.ext e469
          refine Sq.nil ?_
          refine Eq.goes (fun _ => ⟨hB4, hB11⟩) ?_
          refine Gq.two 3 4 rfl rfl (by kernel_rfl) ?_ ?_
          · have hd489 := hB4.lt
            have hd490 := hB11.lt
            have hd491 := hB19.lt
            have hd492 := hB460.lt
            have hd493 := hT473.lt
            refine Sq.call fn48 .plain rfl rfl (tableOf_c _ b _ _ (hnx'.ext E) (hac'.ext E) hv') ?_
            rintro _ w482 ⟨⟨b484, xs485, rfl, hlo486, hT487, hTab488⟩, e483⟩
            have hs494 := Below.size E
            have hs495 := Below.size e483
            replace E := E.trans e483
            replace hB4 := hB4.ext e483
            replace hB11 := hB11.ext e483
            replace hB19 := hB19.ext e483
            replace hB460 := hB460.ext e483
            replace hT473 := hT473.ext e483
            refine Sq.nil ?_
            refine Eq.goes (fun _ => ⟨hB4, hB11⟩) ?_
            refine Gq.one 4 rfl (by kernel_rfl) ?_
            refine Sq.alloc1 zero57 rfl .plain rfl (fun b496 w497 e498 hB499 hlo500 => ?_)
            have hd501 := Nat.le_trans (Below.size E) hlo500
            have hd502 := Nat.lt_of_lt_of_le hB4.lt hlo500
            have hd503 := Nat.lt_of_lt_of_le hB11.lt hlo500
            have hd504 := Nat.lt_of_lt_of_le hB19.lt hlo500
            have hd505 := Nat.lt_of_lt_of_le hB460.lt hlo500
            have hd506 := Nat.lt_of_lt_of_le hT473.lt hlo500
            have hd507 := Nat.lt_of_lt_of_le hT487.lt hlo500
            have hs508 := Below.size e498
            replace E := E.trans e498
            replace hB4 := hB4.ext e498
            replace hB11 := hB11.ext e498
            replace hB19 := hB19.ext e498
            replace hB460 := hB460.ext e498
            replace hT473 := hT473.ext e498
            replace hT487 := hT487.ext e498
            refine Sq.nil ?_
            refine Eq.goes (fun _ => ⟨hB4, hB11⟩) ?_
            refine Gq.one 6 rfl (by kernel_rfl) ?_
            refine Sq.store one57 .plain rfl rfl rfl hB499 (by simp) (fun w509 g510 hB511 => ?_)
            have hs512 := World.grownBy.size g510
            replace E := E.grown g510 (fun k hk => by injection hk with hk; subst hk; omega)
            replace hB4 := hB4.grown g510 (by intro h; injection h with h; omega)
            replace hB11 := hB11.grown g510 (by intro h; injection h with h; omega)
            replace hB19 := hB19.grown g510 (by intro h; injection h with h; omega)
            replace hB460 := hB460.grown g510 (by intro h; injection h with h; omega)
            replace hT473 := hT473.grown g510 (by intro h; injection h with h; omega)
            replace hT487 := hT487.grown g510 (by intro h; injection h with h; omega)
            replace hB499 := hB511
            refine Sq.nil ?_
            refine Eq.goes (fun _ => ⟨hB4, hB11⟩) ?_
            refine Gq.one 7 rfl (by kernel_rfl) ?_
            refine Sq.store one57 .plain rfl rfl rfl hB460 (by simp) (fun w513 g514 hB515 => ?_)
            have hs516 := World.grownBy.size g514
            replace E := E.grown g514 (fun k hk => by injection hk with hk; subst hk; omega)
            replace hB4 := hB4.grown g514 (by intro h; injection h with h; omega)
            replace hB11 := hB11.grown g514 (by intro h; injection h with h; omega)
            replace hB19 := hB19.grown g514 (by intro h; injection h with h; omega)
            replace hT473 := hT473.grown g514 (by intro h; injection h with h; omega)
            replace hT487 := hT487.grown g514 (by intro h; injection h with h; omega)
            replace hB499 := hB499.grown g514 (by intro h; injection h with h; omega)
            replace hB460 := hB515
            refine Sq.nil ?_
            refine Eq.goes (fun h => absurd h (by decide)) ?_
            refine Gq.done (by kernel_rfl) ?_
            refine Eq.left _ ⟨b496, b457, _, _, _, _, rfl, hB499, hB460, hT473, hT487, hTab474, hTab488, by omega, E, hB4, hB11, hB19⟩ (.cons rfl (.cons rfl (.cons rfl (.cons rfl (.cons rfl (.cons rfl (.cons rfl (.nil))))))))
          refine Sq.alloc1 zero57 rfl .plain rfl (fun b517 w518 e519 hB520 hlo521 => ?_)
          have hd522 := Nat.le_trans (Below.size E) hlo521
          have hd523 := Nat.lt_of_lt_of_le hB4.lt hlo521
          have hd524 := Nat.lt_of_lt_of_le hB11.lt hlo521
          have hd525 := Nat.lt_of_lt_of_le hB19.lt hlo521
          have hd526 := Nat.lt_of_lt_of_le hB460.lt hlo521
          have hd527 := Nat.lt_of_lt_of_le hT473.lt hlo521
          have hs528 := Below.size e519
          replace E := E.trans e519
          replace hB4 := hB4.ext e519
          replace hB11 := hB11.ext e519
          replace hB19 := hB19.ext e519
          replace hB460 := hB460.ext e519
          replace hT473 := hT473.ext e519
          refine Sq.nil ?_
          refine Eq.goes (fun _ => ⟨hB4, hB11⟩) ?_
          refine Gq.one 3 rfl (by kernel_rfl) ?_
          have hd537 := hB4.lt
          have hd538 := hB11.lt
          have hd539 := hB19.lt
          have hd540 := hB460.lt
          have hd541 := hT473.lt
          have hd542 := hB520.lt
          refine Sq.call fn48 .plain rfl rfl (tableOf_c _ b _ _ (hnx'.ext E) (hac'.ext E) hv') ?_
          rintro _ w530 ⟨⟨b532, xs533, rfl, hlo534, hT535, hTab536⟩, e531⟩
          have hs543 := Below.size E
          have hs544 := Below.size e531
          replace E := E.trans e531
          replace hB4 := hB4.ext e531
          replace hB11 := hB11.ext e531
          replace hB19 := hB19.ext e531
          replace hB460 := hB460.ext e531
          replace hT473 := hT473.ext e531
          replace hB520 := hB520.ext e531
          refine Sq.nil ?_
          refine Eq.goes (fun _ => ⟨hB4, hB11⟩) ?_
          refine Gq.one 6 rfl (by kernel_rfl) ?_
          refine Sq.store one57 .plain rfl rfl rfl hB520 (by simp) (fun w545 g546 hB547 => ?_)
          have hs548 := World.grownBy.size g546
          replace E := E.grown g546 (fun k hk => by injection hk with hk; subst hk; omega)
          replace hB4 := hB4.grown g546 (by intro h; injection h with h; omega)
          replace hB11 := hB11.grown g546 (by intro h; injection h with h; omega)
          replace hB19 := hB19.grown g546 (by intro h; injection h with h; omega)
          replace hB460 := hB460.grown g546 (by intro h; injection h with h; omega)
          replace hT473 := hT473.grown g546 (by intro h; injection h with h; omega)
          replace hT535 := hT535.grown g546 (by intro h; injection h with h; omega)
          replace hB520 := hB547
          refine Sq.nil ?_
          refine Eq.goes (fun _ => ⟨hB4, hB11⟩) ?_
          refine Gq.one 7 rfl (by kernel_rfl) ?_
          refine Sq.store one57 .plain rfl rfl rfl hB460 (by simp) (fun w549 g550 hB551 => ?_)
          have hs552 := World.grownBy.size g550
          replace E := E.grown g550 (fun k hk => by injection hk with hk; subst hk; omega)
          replace hB4 := hB4.grown g550 (by intro h; injection h with h; omega)
          replace hB11 := hB11.grown g550 (by intro h; injection h with h; omega)
          replace hB19 := hB19.grown g550 (by intro h; injection h with h; omega)
          replace hT473 := hT473.grown g550 (by intro h; injection h with h; omega)
          replace hB520 := hB520.grown g550 (by intro h; injection h with h; omega)
          replace hT535 := hT535.grown g550 (by intro h; injection h with h; omega)
          replace hB460 := hB551
          refine Sq.nil ?_
          refine Eq.goes (fun h => absurd h (by decide)) ?_
          refine Gq.done (by kernel_rfl) ?_
          refine Eq.left _ ⟨b517, b457, _, _, _, _, rfl, hB520, hB460, hT473, hT535, hTab474, hTab536, by omega, E, hB4, hB11, hB19⟩ (.cons rfl (.cons rfl (.cons rfl (.cons rfl (.cons rfl (.cons rfl (.cons rfl (.nil))))))))
        refine Sq.alloc1 zero57 rfl .plain rfl (fun b553 w554 e555 hB556 hlo557 => ?_)
        have hd558 := Nat.le_trans (Below.size E) hlo557
        have hd559 := Nat.lt_of_lt_of_le hB4.lt hlo557
        have hd560 := Nat.lt_of_lt_of_le hB11.lt hlo557
        have hd561 := Nat.lt_of_lt_of_le hB19.lt hlo557
        have hd562 := Nat.lt_of_lt_of_le hB460.lt hlo557
        have hs563 := Below.size e555
        replace E := E.trans e555
        replace hB4 := hB4.ext e555
        replace hB11 := hB11.ext e555
        replace hB19 := hB19.ext e555
        replace hB460 := hB460.ext e555
        refine Sq.nil ?_
        refine Eq.goes (fun _ => ⟨hB4, hB11⟩) ?_
        refine Gq.one 1 rfl (by kernel_rfl) ?_
        have hd572 := hB4.lt
        have hd573 := hB11.lt
        have hd574 := hB19.lt
        have hd575 := hB460.lt
        have hd576 := hB556.lt
        refine Sq.call fn48 .plain rfl rfl (tableOf_c _ a _ _ (hnx.ext E) (hac.ext E) hv) ?_
        rintro _ w565 ⟨⟨b567, xs568, rfl, hlo569, hT570, hTab571⟩, e566⟩
        have hs577 := Below.size E
        have hs578 := Below.size e566
        replace E := E.trans e566
        replace hB4 := hB4.ext e566
        replace hB11 := hB11.ext e566
        replace hB19 := hB19.ext e566
        replace hB460 := hB460.ext e566
        replace hB556 := hB556.ext e566
        refine Sq.nil ?_
        refine Eq.goes (fun _ => ⟨hB4, hB11⟩) ?_
        refine Gq.one 3 rfl (by kernel_rfl) ?_
        have hd587 := hB4.lt
        have hd588 := hB11.lt
        have hd589 := hB19.lt
        have hd590 := hB460.lt
        have hd591 := hB556.lt
        have hd592 := hT570.lt
        refine Sq.call fn48 .plain rfl rfl (tableOf_c _ b _ _ (hnx'.ext E) (hac'.ext E) hv') ?_
        rintro _ w580 ⟨⟨b582, xs583, rfl, hlo584, hT585, hTab586⟩, e581⟩
        have hs593 := Below.size E
        have hs594 := Below.size e581
        replace E := E.trans e581
        replace hB4 := hB4.ext e581
        replace hB11 := hB11.ext e581
        replace hB19 := hB19.ext e581
        replace hB460 := hB460.ext e581
        replace hB556 := hB556.ext e581
        replace hT570 := hT570.ext e581
        refine Sq.nil ?_
        refine Eq.goes (fun _ => ⟨hB4, hB11⟩) ?_
        refine Gq.one 6 rfl (by kernel_rfl) ?_
        refine Sq.store one57 .plain rfl rfl rfl hB556 (by simp) (fun w595 g596 hB597 => ?_)
        have hs598 := World.grownBy.size g596
        replace E := E.grown g596 (fun k hk => by injection hk with hk; subst hk; omega)
        replace hB4 := hB4.grown g596 (by intro h; injection h with h; omega)
        replace hB11 := hB11.grown g596 (by intro h; injection h with h; omega)
        replace hB19 := hB19.grown g596 (by intro h; injection h with h; omega)
        replace hB460 := hB460.grown g596 (by intro h; injection h with h; omega)
        replace hT570 := hT570.grown g596 (by intro h; injection h with h; omega)
        replace hT585 := hT585.grown g596 (by intro h; injection h with h; omega)
        replace hB556 := hB597
        refine Sq.nil ?_
        refine Eq.goes (fun _ => ⟨hB4, hB11⟩) ?_
        refine Gq.one 7 rfl (by kernel_rfl) ?_
        refine Sq.store one57 .plain rfl rfl rfl hB460 (by simp) (fun w599 g600 hB601 => ?_)
        have hs602 := World.grownBy.size g600
        replace E := E.grown g600 (fun k hk => by injection hk with hk; subst hk; omega)
        replace hB4 := hB4.grown g600 (by intro h; injection h with h; omega)
        replace hB11 := hB11.grown g600 (by intro h; injection h with h; omega)
        replace hB19 := hB19.grown g600 (by intro h; injection h with h; omega)
        replace hB556 := hB556.grown g600 (by intro h; injection h with h; omega)
        replace hT570 := hT570.grown g600 (by intro h; injection h with h; omega)
        replace hT585 := hT585.grown g600 (by intro h; injection h with h; omega)
        replace hB460 := hB601
        refine Sq.nil ?_
        refine Eq.goes (fun h => absurd h (by decide)) ?_
        refine Gq.done (by kernel_rfl) ?_
        refine Eq.left _ ⟨b553, b457, _, _, _, _, rfl, hB556, hB460, hT570, hT585, hTab571, hTab586, by omega, E, hB4, hB11, hB19⟩ (.cons rfl (.cons rfl (.cons rfl (.cons rfl (.cons rfl (.cons rfl (.cons rfl (.nil))))))))
      rintro ls wc3 ⟨c8, c9, t1, t2, xs, ys0, rfl, hP1, hP2, hT1, hT2, hTab, hTab', hbb, E, hB4, hB11, hB19⟩
      have hs603 := Below.size E
      have hpal := prod_al hv hv'
      refine Eq.next ?_
      refine Cq.seq ?_
      refine Cq.region ?_
      refine Sq.loadB one57 .plain rfl rfl hP2 rfl ?_
      refine Sq.len .plain rfl und57 rfl ?_
      refine Sq.alloc1 zero3 rfl .plain rfl (fun b604 w605 e606 hB607 hlo608 => ?_)
      have hd609 := Nat.le_trans (Below.size E) hlo608
      have hd610 := Nat.lt_of_lt_of_le hB4.lt hlo608
      have hd611 := Nat.lt_of_lt_of_le hB11.lt hlo608
      have hd612 := Nat.lt_of_lt_of_le hB19.lt hlo608
      have hd613 := Nat.lt_of_lt_of_le hP1.lt hlo608
      have hd614 := Nat.lt_of_lt_of_le hP2.lt hlo608
      have hd615 := Nat.lt_of_lt_of_le hT1.lt hlo608
      have hd616 := Nat.lt_of_lt_of_le hT2.lt hlo608
      have hs617 := Below.size e606
      replace E := E.trans e606
      replace hB4 := hB4.ext e606
      replace hB11 := hB11.ext e606
      replace hB19 := hB19.ext e606
      replace hP1 := hP1.ext e606
      replace hP2 := hP2.ext e606
      replace hT1 := hT1.ext e606
      replace hT2 := hT2.ext e606
      refine Sq.store one3 .plain rfl rfl rfl hB607 (by simp) (fun w618 g619 hB620 => ?_)
      have hs621 := World.grownBy.size g619
      replace E := E.grown g619 (fun k hk => by injection hk with hk; subst hk; omega)
      replace hB4 := hB4.grown g619 (by intro h; injection h with h; omega)
      replace hB11 := hB11.grown g619 (by intro h; injection h with h; omega)
      replace hB19 := hB19.grown g619 (by intro h; injection h with h; omega)
      replace hP1 := hP1.grown g619 (by intro h; injection h with h; omega)
      replace hP2 := hP2.grown g619 (by intro h; injection h with h; omega)
      replace hT1 := hT1.grown g619 (by intro h; injection h with h; omega)
      replace hT2 := hT2.grown g619 (by intro h; injection h with h; omega)
      replace hB607 := hB620
      refine Sq.nil ?_
      refine Eq.next ?_
      refine Cq.seq ?_
      refine Cq.region ?_
      refine Sq.fieldAddr fld26_0 .plain rfl rfl ?_
      refine Sq.loadB one3 .plain rfl rfl hB4 rfl ?_
      refine Sq.fieldAddr fld26_0 .plain rfl rfl ?_
      refine Sq.loadB one3 .plain rfl rfl hB11 rfl ?_
      refine Sq.or .plain rfl rfl rfl (by have := (validA_spec.1 hv).1; have := (validA_spec.1 hv').1; omega) ?_
      refine Sq.build st26 rfl rfl .plain rfl rfl (one_cons rfl one_nil) rfl ?_
      refine Sq.alloc zero26 .plain rfl (fun b622 w623 e624 hB625 hlo626 => ?_)
      have hd627 := Nat.le_trans (Below.size E) hlo626
      have hd628 := Nat.lt_of_lt_of_le hB4.lt hlo626
      have hd629 := Nat.lt_of_lt_of_le hB11.lt hlo626
      have hd630 := Nat.lt_of_lt_of_le hB19.lt hlo626
      have hd631 := Nat.lt_of_lt_of_le hP1.lt hlo626
      have hd632 := Nat.lt_of_lt_of_le hP2.lt hlo626
      have hd633 := Nat.lt_of_lt_of_le hT1.lt hlo626
      have hd634 := Nat.lt_of_lt_of_le hT2.lt hlo626
      have hd635 := Nat.lt_of_lt_of_le hB607.lt hlo626
      have hs636 := Below.size e624
      replace E := E.trans e624
      replace hB4 := hB4.ext e624
      replace hB11 := hB11.ext e624
      replace hB19 := hB19.ext e624
      replace hP1 := hP1.ext e624
      replace hP2 := hP2.ext e624
      replace hT1 := hT1.ext e624
      replace hT2 := hT2.ext e624
      replace hB607 := hB607.ext e624
      refine Sq.storeAgg agg26 .plain rfl rfl (one_cons rfl (one_cons rfl (one_cons rfl one_nil))) hB625 rfl rfl (fun w637 g638 hB639 => ?_)
      have hs640 := World.grownBy.size g638
      replace E := E.grown g638 (fun k hk => by injection hk with hk; subst hk; omega)
      replace hB4 := hB4.grown g638 (by intro h; injection h with h; omega)
      replace hB11 := hB11.grown g638 (by intro h; injection h with h; omega)
      replace hB19 := hB19.grown g638 (by intro h; injection h with h; omega)
      replace hP1 := hP1.grown g638 (by intro h; injection h with h; omega)
      replace hP2 := hP2.grown g638 (by intro h; injection h with h; omega)
      replace hT1 := hT1.grown g638 (by intro h; injection h with h; omega)
      replace hT2 := hT2.grown g638 (by intro h; injection h with h; omega)
      replace hB607 := hB607.grown g638 (by intro h; injection h with h; omega)
      replace hB625 := hB639
      refine Sq.nil ?_
      refine Eq.next ?_
      refine Cq.seq ?_
      refine Cq.region ?_
      refine Sq.fieldAddr fld26_0 .plain rfl rfl ?_
      refine Sq.loadB one3 .plain rfl rfl hB625 rfl ?_
      have hd645 := hB4.lt
      have hd646 := hB11.lt
      have hd647 := hB19.lt
      have hd648 := hP1.lt
      have hd649 := hP2.lt
      have hd650 := hT1.lt
      have hd651 := hT2.lt
      have hd652 := hB607.lt
      have hd653 := hB625.lt
      refine Sq.call fn50 .plain rfl rfl (lettersOf_c (orI a.al b.al) (by omega) _) ?_
      rintro v641 w642 ⟨hl644, e643⟩
      have hs654 := Below.size E
      have hs655 := Below.size e643
      replace E := E.trans e643
      replace hB4 := hB4.ext e643
      replace hB11 := hB11.ext e643
      replace hB19 := hB19.ext e643
      replace hP1 := hP1.ext e643
      replace hP2 := hP2.ext e643
      replace hT1 := hT1.ext e643
      replace hT2 := hT2.ext e643
      replace hB607 := hB607.ext e643
      replace hB625 := hB625.ext e643
      refine Sq.makeFunc .plain rfl rfl ?_
      have hd664 := hB4.lt
      have hd665 := hB11.lt
      have hd666 := hB19.lt
      have hd667 := hP1.lt
      have hd668 := hP2.lt
      have hd669 := hT1.lt
      have hd670 := hT2.lt
      have hd671 := hB607.lt
      have hd672 := hB625.lt
      have hlet := letters_len6 (orI a.al b.al)
      refine Sq.call fn49 .plain rfl rfl (numbered_c _ (fP a b) 0 (letters (orI a.al b.al)) _ _ 12 (fun q => InP a b q) (by omega) (Own.row hl644) (by omega) (fun x hx => ⟨(mem_letters hx).1, (mem_letters hx).2.1⟩) (zero_inP hv hv') (fun q hq x hx => fP_in hv hv' hq ⟨(mem_letters hx).1, (mem_letters hx).2.1⟩) (fun i => Nat.le_trans (fP_bfs_len hv hv' _ i) (by omega)) ⟨51, _, [Value.pointer (some ⟨c8, 0, none⟩), Value.pointer (some ⟨b604, 0, none⟩), Value.pointer (some ⟨c9, 0, none⟩)], rfl, fn51, fun w q y0 hx hq hxx => prod1_c w q y0 a b _ _ _ _ _ _ _ (hP1.ext hx) (hB607.ext hx) (hP2.ext hx) (hT1.ext hx) (hT2.ext hx) hTab hTab' hv hv' hq hxx⟩) ?_
      rintro _ w657 ⟨⟨nv659, xv660, rfl, hn661, hx662⟩, e658⟩
      have hs673 := Below.size E
      have hs674 := Below.size e658
      replace E := E.trans e658
      replace hB4 := hB4.ext e658
      replace hB11 := hB11.ext e658
      replace hB19 := hB19.ext e658
      replace hB607 := hB607.ext e658
      replace hB625 := hB625.ext e658
      by_cases hl663 : ((((ord (fP a b) 0 (letters (orI a.al b.al))).length : Nat) : Int) ≤ 12)
      · rw [if_pos hl663] at hn661 hx662
        refine Sq.move .plain rfl rfl ?_
        refine Sq.extract .plain rfl rfl rfl ?_
        refine Sq.extract .plain rfl rfl rfl ?_
        refine Sq.extract .plain rfl rfl rfl ?_
        refine Sq.isT (hl663) ?_
        refine Sq.assign .plain rfl rfl ?_
        refine Sq.assign .plain rfl rfl ?_
        refine Sq.assign .plain rfl rfl ?_
        refine Sq.nil ?_
        refine Eq.next ?_
        refine Cq.seq ?_
        refine Cq.seq ?_
        refine Cq.region ?_
        refine Sq.move .plain rfl rfl ?_
        refine Sq.notT .plain rfl rfl ?_
        refine Sq.nil ?_
        refine Eq.next ?_
        refine Cq.els rfl ?_
        refine Cq.skip ?_
        refine Eq.next ?_
        refine Cq.seq ?_
        refine Cq.region ?_
        refine Sq.move .plain rfl rfl ?_
        refine Sq.fieldAddr fld26_1 .plain rfl rfl ?_
        refine Sq.store one23 .plain rfl rfl (Rows.one (OwnRows.rows hx662)) hB625 (by simp) (fun w675 g676 hB677 => ?_)
        have hs678 := World.grownBy.size g676
        replace E := E.grown g676 (fun k hk => by injection hk with hk; subst hk; omega)
        replace hB4 := hB4.grown g676 (by intro h; injection h with h; omega)
        replace hB11 := hB11.grown g676 (by intro h; injection h with h; omega)
        replace hB19 := hB19.grown g676 (by intro h; injection h with h; omega)
        replace hB607 := hB607.grown g676 (by intro h; injection h with h; omega)
        replace hn661 := hn661.stored g676 hB625 (by decide)
        replace hx662 := hx662.stored g676 hB625 (by decide) (by decide)
        replace hB625 := hB677
        refine Sq.nil ?_
        refine Eq.next ?_
        refine Cq.seq ?_
        refine Cq.seq ?_
        refine Cq.region ?_
        refine Sq.move .plain rfl rfl ?_
        refine Sq.lenInts (Own.row hn661) .plain rfl und56 rfl ?_
        refine Sq.move .plain rfl rfl ?_
        refine Sq.nil ?_
        refine Eq.next ?_
        refine Cq.block ?_
        have hz := zero_in hv'
        have hz2 := (validA_spec.1 hv').2
        have hz1 := (validA_spec.1 hv).2
        have h144 := le144 hv hv'
        have hall := ord_all (f := fP a b) (s := 0) (L := letters (orI a.al b.al)) (P := InP a b) (zero_inP hv hv') (fun q hq x hx => fP_in hv hv' hq ⟨(mem_letters hx).1, (mem_letters hx).2.1⟩)
        refine Cq.loop (fun nn w ls => ∃ (i : Int), ∃ (acv : Value), ∃ (ys : List Bool), ls = [(2, Value.int .i64 k), (3, Value.pointer (some ⟨b1, 0, none⟩)), (4, Value.pointer (some ⟨b8, 0, none⟩)), (6, Value.pointer (some ⟨b16, 0, none⟩)), (10, Value.pointer (some ⟨b604, 0, none⟩)), (11, Value.pointer (some ⟨b622, 0, none⟩)), (62, nv659), (63, Value.int .i64 ((List.length (ord (fP a b) 0 (letters (orI a.al b.al))) : Int))), (64, Value.int .i64 i)] ∧ (0 ≤ i ∧ i ≤ (ord (fP a b) 0 (letters (orI a.al b.al))).length) ∧ Blk w b622 26 [Value.int .i64 (orI a.al b.al), xv660, acv] ∧ Own w w0.heap.size 4 acv (ys.map Value.bool) ∧ ys = ((ord (fP a b) 0 (letters (orI a.al b.al))).take i.toNat).map (accP a b k) ∧ Ext w0 w ∧ Blk w b1 26 [Value.int .i64 a.al, nx, ac] ∧ Blk w b8 26 [Value.int .i64 b.al, nx', ac'] ∧ Blk w b16 26 [Value.int .i64 0, Value.slice none 0 0, Value.slice none 0 0] ∧ Blk w b604 3 [Value.int .i64 (List.length b.next : Int)] ∧ OwnRows w w642.heap.size w657.heap.size 56 3 xv660 ((ord (fP a b) 0 (letters (orI a.al b.al))).map (rowAt (fP a b) (letters (orI a.al b.al)) (ord (fP a b) 0 (letters (orI a.al b.al))))) ∧ Own w w642.heap.size 3 nv659 ((ord (fP a b) 0 (letters (orI a.al b.al))).map (Value.int .i64)) ∧ nn = (((ord (fP a b) 0 (letters (orI a.al b.al))).length : Int) - i).toNat) _ _ ⟨0, _, [], rfl, by omega, hB625, Own.nil _ _ _, rfl, E, hB4, hB11, hB19, hB607, hx662, hn661, rfl⟩ (.cons rfl (.cons rfl (.cons rfl (.cons rfl (.cons rfl (.cons rfl (.cons rfl (.cons rfl (.cons rfl (.nil)))))))))) ?_
        rintro nn wl1 ls ⟨i, acv, ys, rfl, hi, hBr, hoa, hys, E, hB4, hB11, hB19, hB607, hx662, hn661, rfl⟩
        have hs679 := Below.size E
        have hat : i < (ord (fP a b) 0 (letters (orI a.al b.al))).length → ((0 ≤ ((ord (fP a b) 0 (letters (orI a.al b.al))).getD i.toNat 0 / (List.length b.next : Int)) ∧ ((ord (fP a b) 0 (letters (orI a.al b.al))).getD i.toNat 0 / (List.length b.next : Int)) < (a.next.length : Int)) ∧ 0 ≤ ((ord (fP a b) 0 (letters (orI a.al b.al))).getD i.toNat 0 % (List.length b.next : Int)) ∧ ((ord (fP a b) 0 (letters (orI a.al b.al))).getD i.toNat 0 % (List.length b.next : Int)) < (List.length b.next : Int)) ∧ 0 ≤ (ord (fP a b) 0 (letters (orI a.al b.al))).getD i.toNat 0 ∧ (ord (fP a b) 0 (letters (orI a.al b.al))).getD i.toNat 0 ≤ 144 := fun h => by
          have h7 := hall _ (getD_mem (d := 0) (k := i.toNat) (by omega))
          exact ⟨inP_div hv' h7, h7.1, by have := h7.2; omega⟩
        have hyl : ys.length ≤ 20 := by rw [hys, List.length_map, List.length_take]; omega
        refine Cq.seq ?_
        refine Cq.region ?_
        refine Sq.lss .plain rfl rfl rfl ?_
        refine Sq.part (fun c680 => ?_) (fun c680 => ?_)
        · refine Sq.nil ?_
          refine Eq.next ?_
          refine Cq.seq ?_
          refine Cq.thn rfl ?_
          refine Cq.skip ?_
          refine Eq.next ?_
          refine Cq.seq ?_
          refine Cq.block ?_
          refine Cq.seq ?_
          refine Cq.region ?_
          refine Sq.idxInts sl56 one3 (Own.row hn661) .plain rfl rfl rfl .plain rfl rfl (by omega) (by omega) ?_
          refine Sq.assign .plain rfl rfl ?_
          refine Sq.nil ?_
          refine Eq.next ?_
          refine Cq.seq ?_
          refine Cq.drawS 15 (fun w' => Blk w' b1 26 [Value.int .i64 a.al, nx, ac] ∧ Blk w' b8 26 [Value.int .i64 b.al, nx', ac'] ∧ Blk w' b604 3 [Value.int .i64 (List.length b.next : Int)] ∧ Ext w0 w') mixed (⟨hB4, hB11, hB607, E⟩) (fun w681 e682 hS => ?_)
          clear hS
          have hs683 := Below.size e682
          replace E := E.trans e682
          replace hB4 := hB4.ext e682
          replace hB11 := hB11.ext e682
          replace hB19 := hB19.ext e682
          replace hB607 := hB607.ext e682
          replace hx662 := hx662.ext e682
          replace hn661 := hn661.ext e682
          replace hBr := hBr.ext e682
          replace hoa := hoa.ext e682
          refine Gq.st 0 rfl (by kernel_rfl) rfl .plain rfl (fun _ _ _ h => h) ⟨hB4, hB11, hB607, E⟩ (fun w' x => Still.fieldAddr fld26_2 rfl) ?_
          refine Gq.st 1 rfl (by kernel_rfl) rfl .plain rfl (fun _ _ _ h => h) ⟨hB4, hB11, hB607, E⟩ (fun w' x => Still.loadB one24 rfl x.1 rfl) ?_
          refine Gq.st 2 rfl (by kernel_rfl) rfl .plain rfl (fun _ _ _ h => h) ⟨hB4, hB11, hB607, E⟩ (fun w' x => Still.move rfl) ?_
          refine Gq.st 3 rfl (by kernel_rfl) rfl .plain rfl (fun _ _ _ h => h) ⟨hB4, hB11, hB607, E⟩ (fun w' x => Still.loadB one3 rfl x.2.2.1 rfl) ?_
          refine Gq.st 4 rfl (by kernel_rfl) rfl .plain rfl (fun _ _ _ h => h) ⟨hB4, hB11, hB607, E⟩ (fun w' x => Still.quo rfl rfl (by have := hat (by omega); omega)) ?_
          obtain ⟨p684, hp685_w681⟩ := Bools.at hac (i := ((ord (fP a b) 0 (letters (orI a.al b.al))).getD i.toNat 0) / (List.length b.next : Int)) (by have := hat (by omega); omega) (by have := hat (by omega); omega)
          refine Gq.st 5 rfl (by kernel_rfl) rfl .plain rfl (fun _ _ _ h => h) ⟨hB4, hB11, hB607, E⟩ (fun w' x => Still.at' sl24 hp685_w681 rfl rfl) ?_
          refine Gq.st 6 rfl (by kernel_rfl) rfl .plain rfl (fun _ _ _ h => h) ⟨hB4, hB11, hB607, E⟩ (fun w' x => Still.loadA one4 rfl (hp685_w681.ext (x.2.2.2)).1) ?_
          refine Gq.st 7 rfl (by kernel_rfl) rfl .plain rfl (fun _ _ _ h => h) ⟨hB4, hB11, hB607, E⟩ (fun w' x => Still.fieldAddr fld26_2 rfl) ?_
          refine Gq.st 8 rfl (by kernel_rfl) rfl .plain rfl (fun _ _ _ h => h) ⟨hB4, hB11, hB607, E⟩ (fun w' x => Still.loadB one24 rfl x.2.1 rfl) ?_
          refine Gq.st 9 rfl (by kernel_rfl) rfl .plain rfl (fun _ _ _ h => h) ⟨hB4, hB11, hB607, E⟩ (fun w' x => Still.move rfl) ?_
          refine Gq.st 10 rfl (by kernel_rfl) rfl .plain rfl (fun _ _ _ h => h) ⟨hB4, hB11, hB607, E⟩ (fun w' x => Still.loadB one3 rfl x.2.2.1 rfl) ?_
          refine Gq.st 11 rfl (by kernel_rfl) rfl .plain rfl (fun _ _ _ h => h) ⟨hB4, hB11, hB607, E⟩ (fun w' x => Still.rem rfl rfl (by have := hat (by omega); omega)) ?_
          obtain ⟨p686, hp687_w681⟩ := Bools.at hac' (i := ((ord (fP a b) 0 (letters (orI a.al b.al))).getD i.toNat 0) % (List.length b.next : Int)) (by have := hat (by omega); omega) (by have := hat (by omega); omega)
          refine Gq.st 12 rfl (by kernel_rfl) rfl .plain rfl (fun _ _ _ h => h) ⟨hB4, hB11, hB607, E⟩ (fun w' x => Still.at' sl24 hp687_w681 rfl rfl) ?_
          refine Gq.st 13 rfl (by kernel_rfl) rfl .plain rfl (fun _ _ _ h => h) ⟨hB4, hB11, hB607, E⟩ (fun w' x => Still.loadA one4 rfl (hp687_w681.ext (x.2.2.2)).1) ?_
          refine Gq.st 14 rfl (by kernel_rfl) rfl .plain rfl (fun _ _ _ h => h) ⟨hB4, hB11, hB607, E⟩ (fun w' x => Still.assign rfl) ?_
          refine Gq.one 15 rfl (by kernel_rfl) ?_
          refine Sq.assign .plain rfl rfl ?_
          refine Sq.nil ?_
          refine Eq.goes (fun h => absurd h (by decide)) ?_
          refine Gq.done (by kernel_rfl) ?_
          refine Eq.next ?_
          refine Cq.region ?_
          refine Sq.fieldAddr fld26_2 .plain rfl rfl ?_
          refine Sq.loadB one24 .plain rfl rfl hBr rfl ?_
          refine Sq.move .plain rfl rfl ?_
          refine Sq.eql .plain rfl rfl rfl ?_
          refine Sq.part (fun hk0 => ?_) (fun hk0 => ?_)
          · refine Sq.move .plain rfl rfl ?_
            refine Sq.move (.met rfl rfl rfl) rfl rfl ?_
            refine Sq.partB (fun hx1 => ?_) (fun hx1 => ?_)
            · refine Sq.pickT .plain rfl rfl rfl ?_
              refine Sq.move .plain rfl rfl ?_
              refine Sq.move (.met rfl rfl rfl) rfl rfl ?_
              refine Sq.partB (fun hy1 => ?_) (fun hy1 => ?_)
              · refine Sq.pickT .plain rfl rfl rfl ?_
                refine Sq.move .plain rfl rfl ?_
                refine Sq.off rfl rfl rfl rfl rfl rfl ?_
                refine Sq.off rfl rfl rfl rfl rfl rfl ?_
                refine Sq.off rfl rfl rfl rfl rfl rfl ?_
                refine Sq.offU rfl rfl rfl rfl rfl rfl ?_
                refine Sq.offU rfl rfl rfl rfl rfl rfl ?_
                refine Sq.offU rfl rfl rfl rfl rfl rfl ?_
                refine Sq.offU rfl rfl rfl rfl rfl rfl ?_
                refine Sq.off rfl rfl rfl rfl rfl rfl ?_
                refine Sq.pickT .plain rfl rfl rfl ?_
                refine Sq.move .plain rfl rfl ?_
                refine Sq.off rfl rfl rfl rfl rfl rfl ?_
                refine Sq.off rfl rfl rfl rfl rfl rfl ?_
                refine Sq.off rfl rfl rfl rfl rfl rfl ?_
                refine Sq.offU rfl rfl rfl rfl rfl rfl ?_
                refine Sq.off rfl rfl rfl rfl rfl rfl ?_
                refine Sq.off rfl rfl rfl rfl rfl rfl ?_
                refine Sq.offU rfl rfl rfl rfl rfl rfl ?_
                refine Sq.offU rfl rfl rfl rfl rfl rfl ?_
                refine Sq.off rfl rfl rfl rfl rfl rfl ?_
                refine Sq.pickT .plain rfl rfl rfl ?_
                refine Sq.app1 sl24 hoa (by omega) (by first | omega | (simp; omega)) .plain rfl rfl rfl rfl rfl rfl rfl (fun v688 w689 ho691 g690 _ => ?_)
                have hs692 := g690.size
                replace E := E.owned hoa g690 (by omega)
                replace hB4 := hB4.owned hoa g690 (by decide)
                replace hB11 := hB11.owned hoa g690 (by decide)
                replace hB19 := hB19.owned hoa g690 (by decide)
                replace hB607 := hB607.owned hoa g690 (by decide)
                replace hx662 := hx662.owned hoa g690 (by decide) (by decide)
                replace hn661 := hn661.owned hoa g690 (by decide)
                replace hBr := hBr.owned hoa g690 (by decide)
                refine Sq.fieldAddr fld26_2 .plain rfl rfl ?_
                refine Sq.store one24 .plain rfl rfl (Row.one (Own.row ho691)) hBr (by simp) (fun w693 g694 hB695 => ?_)
                have hs696 := World.grownBy.size g694
                replace E := E.grown g694 (fun k hk => by injection hk with hk; subst hk; omega)
                replace hB4 := hB4.grown g694 (by intro h; injection h with h; omega)
                replace hB11 := hB11.grown g694 (by intro h; injection h with h; omega)
                replace hB19 := hB19.grown g694 (by intro h; injection h with h; omega)
                replace hB607 := hB607.grown g694 (by intro h; injection h with h; omega)
                replace hx662 := hx662.stored g694 hBr (by decide) (by decide)
                replace hn661 := hn661.stored g694 hBr (by decide)
                replace ho691 := ho691.stored g694 hBr (by decide)
                replace hBr := hB695
                refine Sq.nil ?_
                refine Eq.end ?_
                refine Eq.next ?_
                refine Cq.region ?_
                refine Sq.add .plain rfl rfl rfl (by omega) ?_
                refine Sq.move .plain rfl rfl ?_
                refine Sq.nil ?_
                have e1 := toNat_succ hi.1
                refine Eq.round _ _ ⟨i + 1, _, _, rfl, by omega, hBr, Own.snocB ho691, by rw [e1, take_snoc 0 (by omega), List.map_append, ← hys]; congr 1; simp only [List.map_cons, List.map_nil, accP, kindB, accA, hk0, hx1, hy1]; first | done | rfl | simp, E, hB4, hB11, hB19, hB607, hx662, hn661, rfl⟩ (by omega) (.cons rfl (.cons rfl (.cons rfl (.cons rfl (.cons rfl (.cons rfl (.cons rfl (.cons rfl (.cons rfl (.nil))))))))))
              refine Sq.pickT .plain rfl rfl rfl ?_
              refine Sq.move .plain rfl rfl ?_
              refine Sq.move (.met rfl rfl rfl) rfl rfl ?_
              refine Sq.eql (.met rfl rfl rfl) rfl rfl rfl ?_
              refine Sq.isF (by omega) ?_
              refine Sq.move (.met rfl rfl rfl) rfl rfl ?_
              refine Sq.off rfl rfl rfl rfl rfl rfl ?_
              refine Sq.off rfl rfl rfl rfl rfl rfl ?_
              refine Sq.offU rfl rfl rfl rfl rfl rfl ?_
              refine Sq.off rfl rfl rfl rfl rfl rfl ?_
              refine Sq.pickF (.met rfl rfl rfl) rfl rfl rfl ?_
              refine Sq.pickF .plain rfl rfl rfl ?_
              refine Sq.move .plain rfl rfl ?_
              refine Sq.move (.met rfl rfl rfl) rfl rfl ?_
              refine Sq.eql (.met rfl rfl rfl) rfl rfl rfl ?_
              refine Sq.isF (by omega) ?_
              refine Sq.move (.met rfl rfl rfl) rfl rfl ?_
              refine Sq.off rfl rfl rfl rfl rfl rfl ?_
              refine Sq.pickF (.met rfl rfl rfl) rfl rfl rfl ?_
              refine Sq.move (.met rfl rfl rfl) rfl rfl ?_
              refine Sq.off rfl rfl rfl rfl rfl rfl ?_
              refine Sq.off rfl rfl rfl rfl rfl rfl ?_
              refine Sq.pickF (.met rfl rfl rfl) rfl rfl rfl ?_
              refine Sq.pickF .plain rfl rfl rfl ?_
              refine Sq.app1 sl24 hoa (by omega) (by first | omega | (simp; omega)) .plain rfl rfl rfl rfl rfl rfl rfl (fun v697 w698 ho700 g699 _ => ?_)
              have hs701 := g699.size
              replace E := E.owned hoa g699 (by omega)
              replace hB4 := hB4.owned hoa g699 (by decide)
              replace hB11 := hB11.owned hoa g699 (by decide)
              replace hB19 := hB19.owned hoa g699 (by decide)
              replace hB607 := hB607.owned hoa g699 (by decide)
              replace hx662 := hx662.owned hoa g699 (by decide) (by decide)
              replace hn661 := hn661.owned hoa g699 (by decide)
              replace hBr := hBr.owned hoa g699 (by decide)
              refine Sq.fieldAddr fld26_2 .plain rfl rfl ?_
              refine Sq.store one24 .plain rfl rfl (Row.one (Own.row ho700)) hBr (by simp) (fun w702 g703 hB704 => ?_)
              have hs705 := World.grownBy.size g703
              replace E := E.grown g703 (fun k hk => by injection hk with hk; subst hk; omega)
              replace hB4 := hB4.grown g703 (by intro h; injection h with h; omega)
              replace hB11 := hB11.grown g703 (by intro h; injection h with h; omega)
              replace hB19 := hB19.grown g703 (by intro h; injection h with h; omega)
              replace hB607 := hB607.grown g703 (by intro h; injection h with h; omega)
              replace hx662 := hx662.stored g703 hBr (by decide) (by decide)
              replace hn661 := hn661.stored g703 hBr (by decide)
              replace ho700 := ho700.stored g703 hBr (by decide)
              replace hBr := hB704
              refine Sq.nil ?_
              refine Eq.end ?_
              refine Eq.next ?_
              refine Cq.region ?_
              refine Sq.add .plain rfl rfl rfl (by omega) ?_
              refine Sq.move .plain rfl rfl ?_
              refine Sq.nil ?_
              have e1 := toNat_succ hi.1
              refine Eq.round _ _ ⟨i + 1, _, _, rfl, by omega, hBr, Own.snocB ho700, by rw [e1, take_snoc 0 (by omega), List.map_append, ← hys]; congr 1; simp only [List.map_cons, List.map_nil, accP, kindB, accA, hk0, hx1, hy1]; first | done | rfl | simp, E, hB4, hB11, hB19, hB607, hx662, hn661, rfl⟩ (by omega) (.cons rfl (.cons rfl (.cons rfl (.cons rfl (.cons rfl (.cons rfl (.cons rfl (.cons rfl (.cons rfl (.nil))))))))))
            refine Sq.pickT .plain rfl rfl rfl ?_
            refine Sq.move .plain rfl rfl ?_
            refine Sq.off rfl rfl rfl rfl rfl rfl ?_
            refine Sq.pickF .plain rfl rfl rfl ?_
            refine Sq.move .plain rfl rfl ?_
            refine Sq.move (.met rfl rfl rfl) rfl rfl ?_
            refine Sq.eql (.met rfl rfl rfl) rfl rfl rfl ?_
            refine Sq.isF (by omega) ?_
            refine Sq.move (.met rfl rfl rfl) rfl rfl ?_
            refine Sq.off rfl rfl rfl rfl rfl rfl ?_
            refine Sq.off rfl rfl rfl rfl rfl rfl ?_
            refine Sq.offU rfl rfl rfl rfl rfl rfl ?_
            refine Sq.off rfl rfl rfl rfl rfl rfl ?_
            refine Sq.pickF (.met rfl rfl rfl) rfl rfl rfl ?_
            refine Sq.pickF .plain rfl rfl rfl ?_
            refine Sq.move .plain rfl rfl ?_
            refine Sq.move (.met rfl rfl rfl) rfl rfl ?_
            refine Sq.eql (.met rfl rfl rfl) rfl rfl rfl ?_
            refine Sq.isF (by omega) ?_
            refine Sq.move (.met rfl rfl rfl) rfl rfl ?_
            refine Sq.off rfl rfl rfl rfl rfl rfl ?_
            refine Sq.pickF (.met rfl rfl rfl) rfl rfl rfl ?_
            refine Sq.move (.met rfl rfl rfl) rfl rfl ?_
            refine Sq.off rfl rfl rfl rfl rfl rfl ?_
            refine Sq.off rfl rfl rfl rfl rfl rfl ?_
            refine Sq.pickF (.met rfl rfl rfl) rfl rfl rfl ?_
            refine Sq.pickF .plain rfl rfl rfl ?_
            refine Sq.app1 sl24 hoa (by omega) (by first | omega | (simp; omega)) .plain rfl rfl rfl rfl rfl rfl rfl (fun v706 w707 ho709 g708 _ => ?_)
            have hs710 := g708.size
            replace E := E.owned hoa g708 (by omega)
            replace hB4 := hB4.owned hoa g708 (by decide)
            replace hB11 := hB11.owned hoa g708 (by decide)
            replace hB19 := hB19.owned hoa g708 (by decide)
            replace hB607 := hB607.owned hoa g708 (by decide)
            replace hx662 := hx662.owned hoa g708 (by decide) (by decide)
            replace hn661 := hn661.owned hoa g708 (by decide)
            replace hBr := hBr.owned hoa g708 (by decide)
            refine Sq.fieldAddr fld26_2 .plain rfl rfl ?_
            refine Sq.store one24 .plain rfl rfl (Row.one (Own.row ho709)) hBr (by simp) (fun w711 g712 hB713 => ?_)
            have hs714 := World.grownBy.size g712
            replace E := E.grown g712 (fun k hk => by injection hk with hk; subst hk; omega)
            replace hB4 := hB4.grown g712 (by intro h; injection h with h; omega)
            replace hB11 := hB11.grown g712 (by intro h; injection h with h; omega)
            replace hB19 := hB19.grown g712 (by intro h; injection h with h; omega)
            replace hB607 := hB607.grown g712 (by intro h; injection h with h; omega)
            replace hx662 := hx662.stored g712 hBr (by decide) (by decide)
            replace hn661 := hn661.stored g712 hBr (by decide)
            replace ho709 := ho709.stored g712 hBr (by decide)
            replace hBr := hB713
            refine Sq.nil ?_
            refine Eq.end ?_
            refine Eq.next ?_
            refine Cq.region ?_
            refine Sq.add .plain rfl rfl rfl (by omega) ?_
            refine Sq.move .plain rfl rfl ?_
            refine Sq.nil ?_
            have e1 := toNat_succ hi.1
            refine Eq.round _ _ ⟨i + 1, _, _, rfl, by omega, hBr, Own.snocB ho709, by rw [e1, take_snoc 0 (by omega), List.map_append, ← hys]; congr 1; simp only [List.map_cons, List.map_nil, accP, kindB, accA, hk0, hx1]; first | done | rfl | simp, E, hB4, hB11, hB19, hB607, hx662, hn661, rfl⟩ (by omega) (.cons rfl (.cons rfl (.cons rfl (.cons rfl (.cons rfl (.cons rfl (.cons rfl (.cons rfl (.cons rfl (.nil))))))))))
          refine Sq.move .plain rfl rfl ?_
          refine Sq.off rfl rfl rfl rfl rfl rfl ?_
          refine Sq.pickF .plain rfl rfl rfl ?_
          refine Sq.move .plain rfl rfl ?_
          refine Sq.off rfl rfl rfl rfl rfl rfl ?_
          refine Sq.pickF .plain rfl rfl rfl ?_
          refine Sq.move .plain rfl rfl ?_
          refine Sq.move (.met rfl rfl rfl) rfl rfl ?_
          refine Sq.eql (.met rfl rfl rfl) rfl rfl rfl ?_
          refine Sq.part (fun hk1 => ?_) (fun hk1 => ?_)
          · refine Sq.move (.met rfl rfl rfl) rfl rfl ?_
            refine Sq.move (.met rfl rfl rfl) rfl rfl ?_
            refine Sq.partB (fun hx2 => ?_) (fun hx2 => ?_)
            · refine Sq.move (.met rfl rfl rfl) rfl rfl ?_
              refine Sq.off rfl rfl rfl rfl rfl rfl ?_
              refine Sq.pickT (.met rfl rfl rfl) rfl rfl rfl ?_
              refine Sq.pickT (.met rfl rfl rfl) rfl rfl rfl ?_
              refine Sq.pickF .plain rfl rfl rfl ?_
              refine Sq.move .plain rfl rfl ?_
              refine Sq.off rfl rfl rfl rfl rfl rfl ?_
              refine Sq.off rfl rfl rfl rfl rfl rfl ?_
              refine Sq.off rfl rfl rfl rfl rfl rfl ?_
              refine Sq.offU rfl rfl rfl rfl rfl rfl ?_
              refine Sq.off rfl rfl rfl rfl rfl rfl ?_
              refine Sq.off rfl rfl rfl rfl rfl rfl ?_
              refine Sq.offU rfl rfl rfl rfl rfl rfl ?_
              refine Sq.offU rfl rfl rfl rfl rfl rfl ?_
              refine Sq.off rfl rfl rfl rfl rfl rfl ?_
              refine Sq.pickT .plain rfl rfl rfl ?_
              refine Sq.app1 sl24 hoa (by omega) (by first | omega | (simp; omega)) .plain rfl rfl rfl rfl rfl rfl rfl (fun v715 w716 ho718 g717 _ => ?_)
              have hs719 := g717.size
              replace E := E.owned hoa g717 (by omega)
              replace hB4 := hB4.owned hoa g717 (by decide)
              replace hB11 := hB11.owned hoa g717 (by decide)
              replace hB19 := hB19.owned hoa g717 (by decide)
              replace hB607 := hB607.owned hoa g717 (by decide)
              replace hx662 := hx662.owned hoa g717 (by decide) (by decide)
              replace hn661 := hn661.owned hoa g717 (by decide)
              replace hBr := hBr.owned hoa g717 (by decide)
              refine Sq.fieldAddr fld26_2 .plain rfl rfl ?_
              refine Sq.store one24 .plain rfl rfl (Row.one (Own.row ho718)) hBr (by simp) (fun w720 g721 hB722 => ?_)
              have hs723 := World.grownBy.size g721
              replace E := E.grown g721 (fun k hk => by injection hk with hk; subst hk; omega)
              replace hB4 := hB4.grown g721 (by intro h; injection h with h; omega)
              replace hB11 := hB11.grown g721 (by intro h; injection h with h; omega)
              replace hB19 := hB19.grown g721 (by intro h; injection h with h; omega)
              replace hB607 := hB607.grown g721 (by intro h; injection h with h; omega)
              replace hx662 := hx662.stored g721 hBr (by decide) (by decide)
              replace hn661 := hn661.stored g721 hBr (by decide)
              replace ho718 := ho718.stored g721 hBr (by decide)
              replace hBr := hB722
              refine Sq.nil ?_
              refine Eq.end ?_
              refine Eq.next ?_
              refine Cq.region ?_
              refine Sq.add .plain rfl rfl rfl (by omega) ?_
              refine Sq.move .plain rfl rfl ?_
              refine Sq.nil ?_
              have e1 := toNat_succ hi.1
              refine Eq.round _ _ ⟨i + 1, _, _, rfl, by omega, hBr, Own.snocB ho718, by rw [e1, take_snoc 0 (by omega), List.map_append, ← hys]; congr 1; simp only [List.map_cons, List.map_nil, accP, kindB, accA, hk0, hk1, hx2]; first | done | rfl | simp, E, hB4, hB11, hB19, hB607, hx662, hn661, rfl⟩ (by omega) (.cons rfl (.cons rfl (.cons rfl (.cons rfl (.cons rfl (.cons rfl (.cons rfl (.cons rfl (.cons rfl (.nil))))))))))
            refine Sq.move (.met rfl rfl rfl) rfl rfl ?_
            refine Sq.move (.met rfl rfl rfl) rfl rfl ?_
            refine Sq.partB (fun hy2 => ?_) (fun hy2 => ?_)
            · refine Sq.pickF (.met rfl rfl rfl) rfl rfl rfl ?_
              refine Sq.pickT (.met rfl rfl rfl) rfl rfl rfl ?_
              refine Sq.pickF .plain rfl rfl rfl ?_
              refine Sq.move .plain rfl rfl ?_
              refine Sq.off rfl rfl rfl rfl rfl rfl ?_
              refine Sq.off rfl rfl rfl rfl rfl rfl ?_
              refine Sq.off rfl rfl rfl rfl rfl rfl ?_
              refine Sq.offU rfl rfl rfl rfl rfl rfl ?_
              refine Sq.off rfl rfl rfl rfl rfl rfl ?_
              refine Sq.off rfl rfl rfl rfl rfl rfl ?_
              refine Sq.offU rfl rfl rfl rfl rfl rfl ?_
              refine Sq.offU rfl rfl rfl rfl rfl rfl ?_
              refine Sq.off rfl rfl rfl rfl rfl rfl ?_
              refine Sq.pickT .plain rfl rfl rfl ?_
              refine Sq.app1 sl24 hoa (by omega) (by first | omega | (simp; omega)) .plain rfl rfl rfl rfl rfl rfl rfl (fun v724 w725 ho727 g726 _ => ?_)
              have hs728 := g726.size
              replace E := E.owned hoa g726 (by omega)
              replace hB4 := hB4.owned hoa g726 (by decide)
              replace hB11 := hB11.owned hoa g726 (by decide)
              replace hB19 := hB19.owned hoa g726 (by decide)
              replace hB607 := hB607.owned hoa g726 (by decide)
              replace hx662 := hx662.owned hoa g726 (by decide) (by decide)
              replace hn661 := hn661.owned hoa g726 (by decide)
              replace hBr := hBr.owned hoa g726 (by decide)
              refine Sq.fieldAddr fld26_2 .plain rfl rfl ?_
              refine Sq.store one24 .plain rfl rfl (Row.one (Own.row ho727)) hBr (by simp) (fun w729 g730 hB731 => ?_)
              have hs732 := World.grownBy.size g730
              replace E := E.grown g730 (fun k hk => by injection hk with hk; subst hk; omega)
              replace hB4 := hB4.grown g730 (by intro h; injection h with h; omega)
              replace hB11 := hB11.grown g730 (by intro h; injection h with h; omega)
              replace hB19 := hB19.grown g730 (by intro h; injection h with h; omega)
              replace hB607 := hB607.grown g730 (by intro h; injection h with h; omega)
              replace hx662 := hx662.stored g730 hBr (by decide) (by decide)
              replace hn661 := hn661.stored g730 hBr (by decide)
              replace ho727 := ho727.stored g730 hBr (by decide)
              replace hBr := hB731
              refine Sq.nil ?_
              refine Eq.end ?_
              refine Eq.next ?_
              refine Cq.region ?_
              refine Sq.add .plain rfl rfl rfl (by omega) ?_
              refine Sq.move .plain rfl rfl ?_
              refine Sq.nil ?_
              have e1 := toNat_succ hi.1
              refine Eq.round _ _ ⟨i + 1, _, _, rfl, by omega, hBr, Own.snocB ho727, by rw [e1, take_snoc 0 (by omega), List.map_append, ← hys]; congr 1; simp only [List.map_cons, List.map_nil, accP, kindB, accA, hk0, hk1, hx2, hy2]; first | done | rfl | simp, E, hB4, hB11, hB19, hB607, hx662, hn661, rfl⟩ (by omega) (.cons rfl (.cons rfl (.cons rfl (.cons rfl (.cons rfl (.cons rfl (.cons rfl (.cons rfl (.cons rfl (.nil))))))))))
            refine Sq.pickF (.met rfl rfl rfl) rfl rfl rfl ?_
            refine Sq.pickT (.met rfl rfl rfl) rfl rfl rfl ?_
            refine Sq.pickF .plain rfl rfl rfl ?_
            refine Sq.move .plain rfl rfl ?_
            refine Sq.move (.met rfl rfl rfl) rfl rfl ?_
            refine Sq.eql (.met rfl rfl rfl) rfl rfl rfl ?_
            refine Sq.isF (by omega) ?_
            refine Sq.move (.met rfl rfl rfl) rfl rfl ?_
            refine Sq.off rfl rfl rfl rfl rfl rfl ?_
            refine Sq.pickF (.met rfl rfl rfl) rfl rfl rfl ?_
            refine Sq.move (.met rfl rfl rfl) rfl rfl ?_
            refine Sq.off rfl rfl rfl rfl rfl rfl ?_
            refine Sq.off rfl rfl rfl rfl rfl rfl ?_
            refine Sq.pickF (.met rfl rfl rfl) rfl rfl rfl ?_
            refine Sq.pickF .plain rfl rfl rfl ?_
            refine Sq.app1 sl24 hoa (by omega) (by first | omega | (simp; omega)) .plain rfl rfl rfl rfl rfl rfl rfl (fun v733 w734 ho736 g735 _ => ?_)
            have hs737 := g735.size
            replace E := E.owned hoa g735 (by omega)
            replace hB4 := hB4.owned hoa g735 (by decide)
            replace hB11 := hB11.owned hoa g735 (by decide)
            replace hB19 := hB19.owned hoa g735 (by decide)
            replace hB607 := hB607.owned hoa g735 (by decide)
            replace hx662 := hx662.owned hoa g735 (by decide) (by decide)
            replace hn661 := hn661.owned hoa g735 (by decide)
            replace hBr := hBr.owned hoa g735 (by decide)
            refine Sq.fieldAddr fld26_2 .plain rfl rfl ?_
            refine Sq.store one24 .plain rfl rfl (Row.one (Own.row ho736)) hBr (by simp) (fun w738 g739 hB740 => ?_)
            have hs741 := World.grownBy.size g739
            replace E := E.grown g739 (fun k hk => by injection hk with hk; subst hk; omega)
            replace hB4 := hB4.grown g739 (by intro h; injection h with h; omega)
            replace hB11 := hB11.grown g739 (by intro h; injection h with h; omega)
            replace hB19 := hB19.grown g739 (by intro h; injection h with h; omega)
            replace hB607 := hB607.grown g739 (by intro h; injection h with h; omega)
            replace hx662 := hx662.stored g739 hBr (by decide) (by decide)
            replace hn661 := hn661.stored g739 hBr (by decide)
            replace ho736 := ho736.stored g739 hBr (by decide)
            replace hBr := hB740
            refine Sq.nil ?_
            refine Eq.end ?_
            refine Eq.next ?_
            refine Cq.region ?_
            refine Sq.add .plain rfl rfl rfl (by omega) ?_
            refine Sq.move .plain rfl rfl ?_
            refine Sq.nil ?_
            have e1 := toNat_succ hi.1
            refine Eq.round _ _ ⟨i + 1, _, _, rfl, by omega, hBr, Own.snocB ho736, by rw [e1, take_snoc 0 (by omega), List.map_append, ← hys]; congr 1; simp only [List.map_cons, List.map_nil, accP, kindB, accA, hk0, hk1, hx2, hy2]; first | done | rfl | simp, E, hB4, hB11, hB19, hB607, hx662, hn661, rfl⟩ (by omega) (.cons rfl (.cons rfl (.cons rfl (.cons rfl (.cons rfl (.cons rfl (.cons rfl (.cons rfl (.cons rfl (.nil))))))))))
          refine Sq.move (.met rfl rfl rfl) rfl rfl ?_
          refine Sq.off rfl rfl rfl rfl rfl rfl ?_
          refine Sq.off rfl rfl rfl rfl rfl rfl ?_
          refine Sq.offU rfl rfl rfl rfl rfl rfl ?_
          refine Sq.off rfl rfl rfl rfl rfl rfl ?_
          refine Sq.pickF (.met rfl rfl rfl) rfl rfl rfl ?_
          refine Sq.pickF .plain rfl rfl rfl ?_
          refine Sq.move .plain rfl rfl ?_
          refine Sq.move (.met rfl rfl rfl) rfl rfl ?_
          refine Sq.eql (.met rfl rfl rfl) rfl rfl rfl ?_
          refine Sq.isT (by omega) ?_
          refine Sq.move (.met rfl rfl rfl) rfl rfl ?_
          refine Sq.move (.met rfl rfl rfl) rfl rfl ?_
          refine Sq.partB (fun hx3 => ?_) (fun hx3 => ?_)
          · refine Sq.pickT (.met rfl rfl rfl) rfl rfl rfl ?_
            refine Sq.move (.met rfl rfl rfl) rfl rfl ?_
            refine Sq.move (.met rfl rfl rfl) rfl rfl ?_
            refine Sq.not (.met rfl rfl rfl) rfl rfl ?_
            refine Sq.pickT (.met rfl rfl rfl) rfl rfl rfl ?_
            refine Sq.pickF .plain rfl rfl rfl ?_
            refine Sq.app1 sl24 hoa (by omega) (by first | omega | (simp; omega)) .plain rfl rfl rfl rfl rfl rfl rfl (fun v742 w743 ho745 g744 _ => ?_)
            have hs746 := g744.size
            replace E := E.owned hoa g744 (by omega)
            replace hB4 := hB4.owned hoa g744 (by decide)
            replace hB11 := hB11.owned hoa g744 (by decide)
            replace hB19 := hB19.owned hoa g744 (by decide)
            replace hB607 := hB607.owned hoa g744 (by decide)
            replace hx662 := hx662.owned hoa g744 (by decide) (by decide)
            replace hn661 := hn661.owned hoa g744 (by decide)
            replace hBr := hBr.owned hoa g744 (by decide)
            refine Sq.fieldAddr fld26_2 .plain rfl rfl ?_
            refine Sq.store one24 .plain rfl rfl (Row.one (Own.row ho745)) hBr (by simp) (fun w747 g748 hB749 => ?_)
            have hs750 := World.grownBy.size g748
            replace E := E.grown g748 (fun k hk => by injection hk with hk; subst hk; omega)
            replace hB4 := hB4.grown g748 (by intro h; injection h with h; omega)
            replace hB11 := hB11.grown g748 (by intro h; injection h with h; omega)
            replace hB19 := hB19.grown g748 (by intro h; injection h with h; omega)
            replace hB607 := hB607.grown g748 (by intro h; injection h with h; omega)
            replace hx662 := hx662.stored g748 hBr (by decide) (by decide)
            replace hn661 := hn661.stored g748 hBr (by decide)
            replace ho745 := ho745.stored g748 hBr (by decide)
            replace hBr := hB749
            refine Sq.nil ?_
            refine Eq.end ?_
            refine Eq.next ?_
            refine Cq.region ?_
            refine Sq.add .plain rfl rfl rfl (by omega) ?_
            refine Sq.move .plain rfl rfl ?_
            refine Sq.nil ?_
            have e1 := toNat_succ hi.1
            refine Eq.round _ _ ⟨i + 1, _, _, rfl, by omega, hBr, Own.snocB ho745, by rw [e1, take_snoc 0 (by omega), List.map_append, ← hys]; congr 1; simp only [List.map_cons, List.map_nil, accP, kindB, accA, hk0, hk1, hx3]; first | done | rfl | simp, E, hB4, hB11, hB19, hB607, hx662, hn661, rfl⟩ (by omega) (.cons rfl (.cons rfl (.cons rfl (.cons rfl (.cons rfl (.cons rfl (.cons rfl (.cons rfl (.cons rfl (.nil))))))))))
          refine Sq.pickT (.met rfl rfl rfl) rfl rfl rfl ?_
          refine Sq.move (.met rfl rfl rfl) rfl rfl ?_
          refine Sq.off rfl rfl rfl rfl rfl rfl ?_
          refine Sq.off rfl rfl rfl rfl rfl rfl ?_
          refine Sq.pickF (.met rfl rfl rfl) rfl rfl rfl ?_
          refine Sq.pickF .plain rfl rfl rfl ?_
          refine Sq.app1 sl24 hoa (by omega) (by first | omega | (simp; omega)) .plain rfl rfl rfl rfl rfl rfl rfl (fun v751 w752 ho754 g753 _ => ?_)
          have hs755 := g753.size
          replace E := E.owned hoa g753 (by omega)
          replace hB4 := hB4.owned hoa g753 (by decide)
          replace hB11 := hB11.owned hoa g753 (by decide)
          replace hB19 := hB19.owned hoa g753 (by decide)
          replace hB607 := hB607.owned hoa g753 (by decide)
          replace hx662 := hx662.owned hoa g753 (by decide) (by decide)
          replace hn661 := hn661.owned hoa g753 (by decide)
          replace hBr := hBr.owned hoa g753 (by decide)
          refine Sq.fieldAddr fld26_2 .plain rfl rfl ?_
          refine Sq.store one24 .plain rfl rfl (Row.one (Own.row ho754)) hBr (by simp) (fun w756 g757 hB758 => ?_)
          have hs759 := World.grownBy.size g757
          replace E := E.grown g757 (fun k hk => by injection hk with hk; subst hk; omega)
          replace hB4 := hB4.grown g757 (by intro h; injection h with h; omega)
          replace hB11 := hB11.grown g757 (by intro h; injection h with h; omega)
          replace hB19 := hB19.grown g757 (by intro h; injection h with h; omega)
          replace hB607 := hB607.grown g757 (by intro h; injection h with h; omega)
          replace hx662 := hx662.stored g757 hBr (by decide) (by decide)
          replace hn661 := hn661.stored g757 hBr (by decide)
          replace ho754 := ho754.stored g757 hBr (by decide)
          replace hBr := hB758
          refine Sq.nil ?_
          refine Eq.end ?_
          refine Eq.next ?_
          refine Cq.region ?_
          refine Sq.add .plain rfl rfl rfl (by omega) ?_
          refine Sq.move .plain rfl rfl ?_
          refine Sq.nil ?_
          have e1 := toNat_succ hi.1
          refine Eq.round _ _ ⟨i + 1, _, _, rfl, by omega, hBr, Own.snocB ho754, by rw [e1, take_snoc 0 (by omega), List.map_append, ← hys]; congr 1; simp only [List.map_cons, List.map_nil, accP, kindB, accA, hk0, hk1, hx3]; first | done | rfl | simp, E, hB4, hB11, hB19, hB607, hx662, hn661, rfl⟩ (by omega) (.cons rfl (.cons rfl (.cons rfl (.cons rfl (.cons rfl (.cons rfl (.cons rfl (.cons rfl (.cons rfl (.nil))))))))))
        refine Sq.nil ?_
        refine Eq.next ?_
        refine Cq.seq ?_
        refine Cq.els rfl ?_
        refine Cq.exit ?_
        refine Eq.past ?_
        refine Eq.past ?_
        refine Eq.hit ?_
        refine Eq.next ?_
        refine Cq.seq ?_
        refine Cq.region ?_
        refine Sq.loadAgg agg26 .plain rfl rfl hBr rfl ?_
        refine Sq.storeAgg agg26 .plain rfl rfl (one_cons rfl (one_cons (Rows.one (OwnRows.rows hx662)) (one_cons (Row.one (Own.row hoa)) one_nil))) hB19 rfl rfl (fun w760 g761 hB762 => ?_)
        have hs763 := World.grownBy.size g761
        replace E := E.grown g761 (fun k hk => by injection hk with hk; subst hk; omega)
        replace hx662 := hx662.stored g761 hB19 (by decide) (by decide)
        replace hoa := hoa.stored g761 hB19 (by decide)
        replace hB19 := hB762
        refine Sq.assign .plain rfl rfl ?_
        refine Sq.nil ?_
        refine Eq.next ?_
        refine Cq.ret ?_
        refine Eq.retCell2 rfl rfl agg26 hB19 rfl rfl ?_
        have hok := prodOk_len hv hv' (k := k) (by omega) hl663
        have e : prodA a b k = (⟨(orI a.al b.al), ((ord (fP a b) 0 (letters (orI a.al b.al))).map (rowAt (fP a b) (letters (orI a.al b.al)) (ord (fP a b) 0 (letters (orI a.al b.al))))), ys⟩ : A) := by rw [← numP hv hv', hys, List.take_of_length_le (by omega)]; unfold num; rfl
        exact ⟨⟨_, by rw [hok], by rw [if_pos hok, e]; exact ⟨_, _, rfl, OwnRows.now (OwnRows.mono hx662 (by omega)), hoa⟩⟩, E⟩
      rw [if_neg hl663] at hn661 hx662
      refine Sq.move .plain rfl rfl ?_
      refine Sq.extract .plain rfl rfl rfl ?_
      refine Sq.extract .plain rfl rfl rfl ?_
      refine Sq.extract .plain rfl rfl rfl ?_
      refine Sq.isF (hl663) ?_
      refine Sq.assign .plain rfl rfl ?_
      refine Sq.assign .plain rfl rfl ?_
      refine Sq.assign .plain rfl rfl ?_
      refine Sq.nil ?_
      refine Eq.next ?_
      refine Cq.seq ?_
      refine Cq.seq ?_
      refine Cq.region ?_
      refine Sq.move .plain rfl rfl ?_
      refine Sq.notF .plain rfl rfl ?_
      refine Sq.nil ?_
      refine Eq.next ?_
      refine Cq.thn rfl ?_
      refine Cq.seq ?_
      refine Cq.region ?_
      refine Sq.build st26 rfl rfl .plain rfl rfl one_nil rfl ?_
      refine Sq.storeAgg agg26 .plain rfl rfl (one_cons rfl (one_cons rfl (one_cons rfl one_nil))) hB19 rfl rfl (fun w764 g765 hB766 => ?_)
      have hs767 := World.grownBy.size g765
      replace E := E.grown g765 (fun k hk => by injection hk with hk; subst hk; omega)
      replace hB19 := hB766
      refine Sq.assign .plain rfl rfl ?_
      refine Sq.nil ?_
      refine Eq.next ?_
      refine Cq.ret ?_
      refine Eq.pastRet ?_
      refine Eq.retCell2 rfl rfl agg26 hB19 rfl rfl ?_
      have hno : prodOk a b k = false := prodOk_big hv hv' hl663
      exact ⟨⟨_, by rw [hno], by rw [if_neg (by rw [hno]; decide)]; exact ⟨_, _, rfl, OwnRows.nil _ _ _ _ _, Own.nil _ _ _⟩⟩, E⟩
    refine Sq.notF (.met rfl rfl rfl) rfl rfl ?_
    refine Sq.pickF .plain rfl rfl rfl ?_
    refine Sq.move .plain rfl rfl ?_
    refine Sq.off rfl rfl rfl rfl rfl rfl ?_
    refine Sq.off rfl rfl rfl rfl rfl rfl ?_
    refine Sq.pickT .plain rfl rfl rfl ?_
    refine Sq.move .plain rfl rfl ?_
    refine Sq.off rfl rfl rfl rfl rfl rfl ?_
    refine Sq.off rfl rfl rfl rfl rfl rfl ?_
    refine Sq.pickT .plain rfl rfl rfl ?_
    refine Sq.nil ?_
    refine Eq.next ?_
    refine Cq.thn rfl ?_
    refine Cq.seq ?_
    refine Cq.region ?_
    refine Sq.build st26 rfl rfl .plain rfl rfl one_nil rfl ?_
    refine Sq.storeAgg agg26 .plain rfl rfl (one_cons rfl (one_cons rfl (one_cons rfl one_nil))) hB19 rfl rfl (fun w768 g769 hB770 => ?_)
    have hs771 := World.grownBy.size g769
    replace E := E.grown g769 (fun k hk => by injection hk with hk; subst hk; omega)
    replace hB19 := hB770
    refine Sq.assign .plain rfl rfl ?_
    refine Sq.nil ?_
    refine Eq.next ?_
    refine Cq.ret ?_
    refine Eq.pastRet ?_
    refine Eq.retCell2 rfl rfl agg26 hB19 rfl rfl ?_
    have hno : prodOk a b k = false := prodOk_no (.inr (.inl hv'))
    exact ⟨⟨_, by rw [hno], by rw [if_neg (by rw [hno]; decide)]; exact ⟨_, _, rfl, OwnRows.nil _ _ _ _ _, Own.nil _ _ _⟩⟩, E⟩
  refine Sq.notF .plain rfl rfl ?_
  refine Sq.move .plain rfl rfl ?_
  refine Sq.off rfl rfl rfl rfl rfl rfl ?_
  refine Sq.off rfl rfl rfl rfl rfl rfl ?_
  refine Sq.off rfl rfl rfl rfl rfl rfl ?_
  refine Sq.pickT .plain rfl rfl rfl ?_
  refine Sq.move .plain rfl rfl ?_
  refine Sq.off rfl rfl rfl rfl rfl rfl ?_
  refine Sq.off rfl rfl rfl rfl rfl rfl ?_
  refine Sq.pickT .plain rfl rfl rfl ?_
  refine Sq.move .plain rfl rfl ?_
  refine Sq.off rfl rfl rfl rfl rfl rfl ?_
  refine Sq.off rfl rfl rfl rfl rfl rfl ?_
  refine Sq.pickT .plain rfl rfl rfl ?_
  refine Sq.nil ?_
  refine Eq.next ?_
  refine Cq.thn rfl ?_
  refine Cq.seq ?_
  refine Cq.region ?_
  refine Sq.build st26 rfl rfl .plain rfl rfl one_nil rfl ?_
  refine Sq.storeAgg agg26 .plain rfl rfl (one_cons rfl (one_cons rfl (one_cons rfl one_nil))) hB19 rfl rfl (fun w772 g773 hB774 => ?_)
  have hs775 := World.grownBy.size g773
  replace E := E.grown g773 (fun k hk => by injection hk with hk; subst hk; omega)
  replace hB19 := hB774
  refine Sq.assign .plain rfl rfl ?_
  refine Sq.nil ?_
  refine Eq.next ?_
  refine Cq.ret ?_
  refine Eq.pastRet ?_
  refine Eq.retCell2 rfl rfl agg26 hB19 rfl rfl ?_
  have hno : prodOk a b k = false := prodOk_no (.inl hv)
  exact ⟨⟨_, by rw [hno], by rw [if_neg (by rw [hno]; decide)]; exact ⟨_, _, rfl, OwnRows.nil _ _ _ _ _, Own.nil _ _ _⟩⟩, E⟩
theorem prod_c_T (w0 : World) (a b : A) (nx ac nx' ac' : Value) (hnx : Rows w0 56 3 nx a.next) (hac : Bools w0 4 ac a.acc) (hnx' : Rows w0 56 3 nx' b.next) (hac' : Bools w0 4 ac' b.acc) (k : Int) (hC : prodOk a b k = true) : Ret Try.prog 16 #[Value.agg #[Value.int .i64 a.al, nx, ac], Value.agg #[Value.int .i64 b.al, nx', ac'], Value.int .i64 k] w0 (fun v w => (∃ u, v = .tuple #[u, .bool true] ∧ OwnA w w0.heap.size u (prodA a b k)) ∧ Ext w0 w) :=
  (prod_c w0 a b nx ac nx' ac' hnx hac hnx' hac' k).mono fun v w h => by rw [hC, if_pos rfl] at h; exact h
theorem prod_c_F (w0 : World) (a b : A) (nx ac nx' ac' : Value) (hnx : Rows w0 56 3 nx a.next) (hac : Bools w0 4 ac a.acc) (hnx' : Rows w0 56 3 nx' b.next) (hac' : Bools w0 4 ac' b.acc) (k : Int) (hC : prodOk a b k = false) : Ret Try.prog 16 #[Value.agg #[Value.int .i64 a.al, nx, ac], Value.agg #[Value.int .i64 b.al, nx', ac'], Value.int .i64 k] w0 (fun v w => (∃ u, v = .tuple #[u, .bool false] ∧ OwnA w w0.heap.size u (zeroA)) ∧ Ext w0 w) :=
  (prod_c w0 a b nx ac nx' ac' hnx hac hnx' hac' k).mono fun v w h => by rw [hC, if_neg (by decide)] at h; exact h
end Go.Proofs.Ytdejmfkpohgamaa
set_option linter.unusedSimpArgs false
set_option linter.unusedVariables false
namespace Go.Proofs.Ytdejmfkpohgamaa
open Go.RowKit
set_option maxRecDepth 100000 in
theorem letterByte_c (x : Int) (hx : 0 ≤ x ∧ x ≤ 100) (w0 : World) : Ret Try.prog 131 #[Value.int .i64 x] w0 (fun v w => v = .int .u8 (97 + x) ∧ w0 = w) := by
  refine Ret.of (args := [Value.int .i64 x]) Try.func131 rfl rfl rfl ?_
  rintro _ rfl
  show Cq _ _ _ _ [(0, Value.int .i64 x)] _
  refine Cq.seq ?_
  refine Cq.region ?_
  refine Sq.assign .plain rfl rfl ?_
  refine Sq.nil ?_
  refine Eq.next ?_
  refine Cq.seq ?_
  refine Cq.region ?_
  refine Sq.move .plain rfl rfl ?_
  refine Sq.add .plain rfl rfl rfl (by omega) ?_
  refine Sq.conv8 conv3_5 .plain rfl rfl (by omega) ?_
  refine Sq.assign .plain rfl rfl ?_
  refine Sq.nil ?_
  refine Eq.next ?_
  refine Cq.ret ?_
  refine Eq.ret1 rfl rfl ?_
  exact ⟨rfl, rfl⟩
set_option maxRecDepth 100000 in
theorem reverse_c (w0 : World) (B : Nat) (r : Value) (xs : List UInt8) (ho : Own w0 B 5 r (xs.map fun b => Value.int .u8 (b.toNat : Int))) (hl : xs.length ≤ 1000) : Ret Try.prog 132 #[r] w0 (fun v w => v = .tuple #[] ∧ Own w B 5 r (xs.reverse.map fun b => Value.int .u8 (b.toNat : Int)) ∧ w0.grownBy w r.ownBlock) := by
  have hgo := World.grownBy.refl w0 r.ownBlock
  refine Ret.of (args := [r]) Try.func132 rfl rfl rfl ?_
  rintro _ rfl
  show Cq _ _ _ _ [(0, r)] _
  refine Cq.seq ?_
  refine Cq.region ?_
  refine Sq.move .plain rfl rfl ?_
  refine Sq.lenBytes (Own.row ho) .plain rfl und22 rfl ?_
  refine Sq.sub .plain rfl rfl rfl (by omega) ?_
  refine Sq.assign .plain rfl rfl ?_
  refine Sq.assign .plain rfl rfl ?_
  refine Sq.nil ?_
  refine Eq.next ?_
  refine Cq.block ?_
  rw [show ((xs.length : Int) - 1) = (xs.length : Int) - 1 - 0 by omega]
  refine Cq.loop (fun nn w ls => ∃ (i : Int), ∃ (ys : List UInt8), ls = [(0, r), (2, Value.int .i64 i), (3, Value.int .i64 ((xs.length : Int) - 1 - i))] ∧ (0 ≤ i ∧ i ≤ xs.length) ∧ Own w B 5 r (ys.map fun b => Value.int .u8 (b.toNat : Int)) ∧ RevAt xs i.toNat ys ∧ World.grownBy w0 w r.ownBlock ∧ nn = ((xs.length : Int) - i).toNat) _ _ ⟨0, _, rfl, by omega, ho, RevAt.zero xs, hgo, rfl⟩ (.cons rfl (.cons rfl (.cons rfl (.nil)))) ?_
  rintro nn wl1 ls ⟨i, ys, rfl, hi, ho, hr, hgo, rfl⟩
  have hyl := hr.1
  refine Cq.seq ?_
  refine Cq.seq ?_
  refine Cq.region ?_
  refine Sq.move .plain rfl rfl ?_
  refine Sq.move .plain rfl rfl ?_
  refine Sq.lss .plain rfl rfl rfl ?_
  refine Sq.part (fun c1 => ?_) (fun c1 => ?_)
  · refine Sq.nil ?_
    refine Eq.next ?_
    refine Cq.thn rfl ?_
    refine Cq.skip ?_
    refine Eq.next ?_
    refine Cq.seq ?_
    refine Cq.block ?_
    refine Cq.drawS 14 (fun w' => World.grownBy w0 w' r.ownBlock) mixed (hgo) (fun w2 e3 hS => ?_)
    clear hS
    have hs4 := Below.size e3
    replace hgo := grown_trans hgo (Ext.to_grown e3 _)
    replace ho := ho.ext e3
    have ho_w2 := ho
    refine Gq.st 0 rfl (by kernel_rfl) rfl .plain rfl (fun _ _ _ h => h) hgo (fun w' x => Still.move rfl) ?_
    refine Gq.st 1 rfl (by kernel_rfl) rfl .plain rfl (fun _ _ _ h => h) hgo (fun w' x => Still.move rfl) ?_
    refine Gq.st 2 rfl (by kernel_rfl) rfl .plain rfl (fun _ _ _ h => h) hgo (fun w' x => Still.move rfl) ?_
    refine Gq.st 3 rfl (by kernel_rfl) rfl .plain rfl (fun _ _ _ h => h) hgo (fun w' x => Still.move rfl) ?_
    refine Gq.st 4 rfl (by kernel_rfl) rfl .plain rfl (fun _ _ _ h => h) hgo (fun w' x => Still.move rfl) ?_
    refine Gq.st 5 rfl (by kernel_rfl) rfl .plain rfl (fun _ _ _ h => h) hgo (fun w' x => Still.move rfl) ?_
    refine Gq.st 8 rfl (by kernel_rfl) rfl .plain rfl (fun _ _ _ h => h) hgo (fun w' x => Still.move rfl) ?_
    refine Gq.st 9 rfl (by kernel_rfl) rfl .plain rfl (fun _ _ _ h => h) hgo (fun w' x => Still.move rfl) ?_
    refine Gq.two 6 10 rfl rfl (by kernel_rfl) ?_ ?_
    · obtain ⟨p5, hp6⟩ := Bytes.at (Own.row ho) (i := ((xs.length : Int) - 1 - i)) (by omega) (by omega)
      refine Sq.val .plain rfl rfl (Still.at' sl22 hp6 rfl rfl) ?_
      refine Sq.nil ?_
      refine Eq.goes (fun _ => hgo) ?_
      refine Gq.two 7 10 rfl rfl (by kernel_rfl) ?_ ?_
      · refine Sq.val .plain rfl rfl (Still.loadA one5 rfl hp6.1) ?_
        refine Sq.nil ?_
        refine Eq.goes (fun _ => hgo) ?_
        refine Gq.one 10 rfl (by kernel_rfl) ?_
        obtain ⟨p7, hp8⟩ := Bytes.at (Own.row ho) (i := i) (by omega) (by omega)
        refine Sq.val .plain rfl rfl (Still.at' sl22 hp8 rfl rfl) ?_
        refine Sq.nil ?_
        refine Eq.goes (fun _ => hgo) ?_
        refine Gq.one 11 rfl (by kernel_rfl) ?_
        refine Sq.val .plain rfl rfl (Still.loadA one5 rfl hp8.1) ?_
        refine Sq.nil ?_
        refine Eq.goes (fun _ => hgo) ?_
        obtain ⟨p9, hp10_w2⟩ := Bytes.at (Own.row ho_w2) (i := i) (by omega) (by omega)
        have hp10o := AtO.of ho_w2 hp10_w2
        refine Gq.st 12 rfl (by kernel_rfl) rfl .plain rfl (fun _ _ _ h => h) hgo (fun w' x => Still.at' sl22 hp10_w2 rfl rfl) ?_
        refine Gq.one 13 rfl (by kernel_rfl) ?_
        refine Sq.storeO one5 ho hp10o .plain rfl rfl rfl (fun w11 g12 ho13 => ?_)
        have hs14 := World.grownBy.size g12
        replace hgo := grown_trans hgo g12
        replace ho := ho13
        refine Sq.nil ?_
        refine Eq.goes (fun _ => hgo) ?_
        refine Gq.one 14 rfl (by kernel_rfl) ?_
        obtain ⟨p15, hp16o⟩ := Own.at ho (i := ((xs.length : Int) - 1 - i)) (by omega) (by first | (simp only [List.length_map]; omega) | (simp; omega))
        refine Sq.atO sl22 hp16o .plain rfl rfl rfl ?_
        refine Sq.nil ?_
        refine Eq.goes (fun h => absurd h (by decide)) ?_
        refine Gq.one 15 rfl (by kernel_rfl) ?_
        refine Sq.storeO one5 ho hp16o .plain rfl rfl rfl (fun w17 g18 ho19 => ?_)
        have hs20 := World.grownBy.size g18
        replace hgo := grown_trans hgo g18
        replace ho := ho19
        refine Sq.nil ?_
        refine Eq.goes (fun h => absurd h (by decide)) ?_
        refine Gq.done (by kernel_rfl) ?_
        refine Eq.end ?_
        refine Eq.next ?_
        refine Cq.region ?_
        refine Sq.move .plain rfl rfl ?_
        refine Sq.add .plain rfl rfl rfl (by omega) ?_
        refine Sq.move .plain rfl rfl ?_
        refine Sq.sub .plain rfl rfl rfl (by omega) ?_
        refine Sq.assign .plain rfl rfl ?_
        refine Sq.assign .plain rfl rfl ?_
        refine Sq.nil ?_
        have e1 := toNat_succ hi.1
        have e2 : (((xs.length : Int) - 1 - i) - 1) = (xs.length : Int) - 1 - (i + 1) := by omega
        have e3 := hr.step (by omega)
        have e4 : ((xs.length : Int) - 1 - i).toNat = xs.length - 1 - i.toNat := by omega
        rw [e2]
        refine Eq.round _ _ ⟨i + 1, _, rfl, by omega, Own.setU2 ho, by rw [e1, e4]; exact e3, hgo, rfl⟩ (by omega) (.cons rfl (.cons rfl (.cons rfl (.nil))))
      obtain ⟨p21, hp22⟩ := Bytes.at (Own.row ho) (i := i) (by omega) (by omega)
      refine Sq.val .plain rfl rfl (Still.at' sl22 hp22 rfl rfl) ?_
      refine Sq.nil ?_
      refine Eq.goes (fun _ => hgo) ?_
      refine Gq.two 7 11 rfl rfl (by kernel_rfl) ?_ ?_
      · refine Sq.val .plain rfl rfl (Still.loadA one5 rfl hp6.1) ?_
        refine Sq.nil ?_
        refine Eq.goes (fun _ => hgo) ?_
        refine Gq.one 11 rfl (by kernel_rfl) ?_
        refine Sq.val .plain rfl rfl (Still.loadA one5 rfl hp22.1) ?_
        refine Sq.nil ?_
        refine Eq.goes (fun _ => hgo) ?_
        obtain ⟨p23, hp24_w2⟩ := Bytes.at (Own.row ho_w2) (i := i) (by omega) (by omega)
        have hp24o := AtO.of ho_w2 hp24_w2
        refine Gq.st 12 rfl (by kernel_rfl) rfl .plain rfl (fun _ _ _ h => h) hgo (fun w' x => Still.at' sl22 hp24_w2 rfl rfl) ?_
        refine Gq.one 13 rfl (by kernel_rfl) ?_
        refine Sq.storeO one5 ho hp24o .plain rfl rfl rfl (fun w25 g26 ho27 => ?_)
        have hs28 := World.grownBy.size g26
        replace hgo := grown_trans hgo g26
        replace ho := ho27
        refine Sq.nil ?_
        refine Eq.goes (fun _ => hgo) ?_
        refine Gq.one 14 rfl (by kernel_rfl) ?_
        obtain ⟨p29, hp30o⟩ := Own.at ho (i := ((xs.length : Int) - 1 - i)) (by omega) (by first | (simp only [List.length_map]; omega) | (simp; omega))
        refine Sq.atO sl22 hp30o .plain rfl rfl rfl ?_
        refine Sq.nil ?_
        refine Eq.goes (fun h => absurd h (by decide)) ?_
        refine Gq.one 15 rfl (by kernel_rfl) ?_
        refine Sq.storeO one5 ho hp30o .plain rfl rfl rfl (fun w31 g32 ho33 => ?_)
        have hs34 := World.grownBy.size g32
        replace hgo := grown_trans hgo g32
        replace ho := ho33
        refine Sq.nil ?_
        refine Eq.goes (fun h => absurd h (by decide)) ?_
        refine Gq.done (by kernel_rfl) ?_
        refine Eq.end ?_
        refine Eq.next ?_
        refine Cq.region ?_
        refine Sq.move .plain rfl rfl ?_
        refine Sq.add .plain rfl rfl rfl (by omega) ?_
        refine Sq.move .plain rfl rfl ?_
        refine Sq.sub .plain rfl rfl rfl (by omega) ?_
        refine Sq.assign .plain rfl rfl ?_
        refine Sq.assign .plain rfl rfl ?_
        refine Sq.nil ?_
        have e1 := toNat_succ hi.1
        have e2 : (((xs.length : Int) - 1 - i) - 1) = (xs.length : Int) - 1 - (i + 1) := by omega
        have e3 := hr.step (by omega)
        have e4 : ((xs.length : Int) - 1 - i).toNat = xs.length - 1 - i.toNat := by omega
        rw [e2]
        refine Eq.round _ _ ⟨i + 1, _, rfl, by omega, Own.setU2 ho, by rw [e1, e4]; exact e3, hgo, rfl⟩ (by omega) (.cons rfl (.cons rfl (.cons rfl (.nil))))
      refine Sq.val .plain rfl rfl (Still.loadA one5 rfl hp22.1) ?_
      refine Sq.nil ?_
      refine Eq.goes (fun _ => hgo) ?_
      refine Gq.one 7 rfl (by kernel_rfl) ?_
      refine Sq.val .plain rfl rfl (Still.loadA one5 rfl hp6.1) ?_
      refine Sq.nil ?_
      refine Eq.goes (fun _ => hgo) ?_
      obtain ⟨p35, hp36_w2⟩ := Bytes.at (Own.row ho_w2) (i := i) (by omega) (by omega)
      have hp36o := AtO.of ho_w2 hp36_w2
      refine Gq.st 12 rfl (by kernel_rfl) rfl .plain rfl (fun _ _ _ h => h) hgo (fun w' x => Still.at' sl22 hp36_w2 rfl rfl) ?_
      refine Gq.one 13 rfl (by kernel_rfl) ?_
      refine Sq.storeO one5 ho hp36o .plain rfl rfl rfl (fun w37 g38 ho39 => ?_)
      have hs40 := World.grownBy.size g38
      replace hgo := grown_trans hgo g38
      replace ho := ho39
      refine Sq.nil ?_
      refine Eq.goes (fun _ => hgo) ?_
      refine Gq.one 14 rfl (by kernel_rfl) ?_
      obtain ⟨p41, hp42o⟩ := Own.at ho (i := ((xs.length : Int) - 1 - i)) (by omega) (by first | (simp only [List.length_map]; omega) | (simp; omega))
      refine Sq.atO sl22 hp42o .plain rfl rfl rfl ?_
      refine Sq.nil ?_
      refine Eq.goes (fun h => absurd h (by decide)) ?_
      refine Gq.one 15 rfl (by kernel_rfl) ?_
      refine Sq.storeO one5 ho hp42o .plain rfl rfl rfl (fun w43 g44 ho45 => ?_)
      have hs46 := World.grownBy.size g44
      replace hgo := grown_trans hgo g44
      replace ho := ho45
      refine Sq.nil ?_
      refine Eq.goes (fun h => absurd h (by decide)) ?_
      refine Gq.done (by kernel_rfl) ?_
      refine Eq.end ?_
      refine Eq.next ?_
      refine Cq.region ?_
      refine Sq.move .plain rfl rfl ?_
      refine Sq.add .plain rfl rfl rfl (by omega) ?_
      refine Sq.move .plain rfl rfl ?_
      refine Sq.sub .plain rfl rfl rfl (by omega) ?_
      refine Sq.assign .plain rfl rfl ?_
      refine Sq.assign .plain rfl rfl ?_
      refine Sq.nil ?_
      have e1 := toNat_succ hi.1
      have e2 : (((xs.length : Int) - 1 - i) - 1) = (xs.length : Int) - 1 - (i + 1) := by omega
      have e3 := hr.step (by omega)
      have e4 : ((xs.length : Int) - 1 - i).toNat = xs.length - 1 - i.toNat := by omega
      rw [e2]
      refine Eq.round _ _ ⟨i + 1, _, rfl, by omega, Own.setU2 ho, by rw [e1, e4]; exact e3, hgo, rfl⟩ (by omega) (.cons rfl (.cons rfl (.cons rfl (.nil))))
    obtain ⟨p47, hp48⟩ := Bytes.at (Own.row ho) (i := i) (by omega) (by omega)
    refine Sq.val .plain rfl rfl (Still.at' sl22 hp48 rfl rfl) ?_
    refine Sq.nil ?_
    refine Eq.goes (fun _ => hgo) ?_
    refine Gq.two 6 11 rfl rfl (by kernel_rfl) ?_ ?_
    · obtain ⟨p49, hp50⟩ := Bytes.at (Own.row ho) (i := ((xs.length : Int) - 1 - i)) (by omega) (by omega)
      refine Sq.val .plain rfl rfl (Still.at' sl22 hp50 rfl rfl) ?_
      refine Sq.nil ?_
      refine Eq.goes (fun _ => hgo) ?_
      refine Gq.two 7 11 rfl rfl (by kernel_rfl) ?_ ?_
      · refine Sq.val .plain rfl rfl (Still.loadA one5 rfl hp50.1) ?_
        refine Sq.nil ?_
        refine Eq.goes (fun _ => hgo) ?_
        refine Gq.one 11 rfl (by kernel_rfl) ?_
        refine Sq.val .plain rfl rfl (Still.loadA one5 rfl hp48.1) ?_
        refine Sq.nil ?_
        refine Eq.goes (fun _ => hgo) ?_
        obtain ⟨p51, hp52_w2⟩ := Bytes.at (Own.row ho_w2) (i := i) (by omega) (by omega)
        have hp52o := AtO.of ho_w2 hp52_w2
        refine Gq.st 12 rfl (by kernel_rfl) rfl .plain rfl (fun _ _ _ h => h) hgo (fun w' x => Still.at' sl22 hp52_w2 rfl rfl) ?_
        refine Gq.one 13 rfl (by kernel_rfl) ?_
        refine Sq.storeO one5 ho hp52o .plain rfl rfl rfl (fun w53 g54 ho55 => ?_)
        have hs56 := World.grownBy.size g54
        replace hgo := grown_trans hgo g54
        replace ho := ho55
        refine Sq.nil ?_
        refine Eq.goes (fun _ => hgo) ?_
        refine Gq.one 14 rfl (by kernel_rfl) ?_
        obtain ⟨p57, hp58o⟩ := Own.at ho (i := ((xs.length : Int) - 1 - i)) (by omega) (by first | (simp only [List.length_map]; omega) | (simp; omega))
        refine Sq.atO sl22 hp58o .plain rfl rfl rfl ?_
        refine Sq.nil ?_
        refine Eq.goes (fun h => absurd h (by decide)) ?_
        refine Gq.one 15 rfl (by kernel_rfl) ?_
        refine Sq.storeO one5 ho hp58o .plain rfl rfl rfl (fun w59 g60 ho61 => ?_)
        have hs62 := World.grownBy.size g60
        replace hgo := grown_trans hgo g60
        replace ho := ho61
        refine Sq.nil ?_
        refine Eq.goes (fun h => absurd h (by decide)) ?_
        refine Gq.done (by kernel_rfl) ?_
        refine Eq.end ?_
        refine Eq.next ?_
        refine Cq.region ?_
        refine Sq.move .plain rfl rfl ?_
        refine Sq.add .plain rfl rfl rfl (by omega) ?_
        refine Sq.move .plain rfl rfl ?_
        refine Sq.sub .plain rfl rfl rfl (by omega) ?_
        refine Sq.assign .plain rfl rfl ?_
        refine Sq.assign .plain rfl rfl ?_
        refine Sq.nil ?_
        have e1 := toNat_succ hi.1
        have e2 : (((xs.length : Int) - 1 - i) - 1) = (xs.length : Int) - 1 - (i + 1) := by omega
        have e3 := hr.step (by omega)
        have e4 : ((xs.length : Int) - 1 - i).toNat = xs.length - 1 - i.toNat := by omega
        rw [e2]
        refine Eq.round _ _ ⟨i + 1, _, rfl, by omega, Own.setU2 ho, by rw [e1, e4]; exact e3, hgo, rfl⟩ (by omega) (.cons rfl (.cons rfl (.cons rfl (.nil))))
      refine Sq.val .plain rfl rfl (Still.loadA one5 rfl hp48.1) ?_
      refine Sq.nil ?_
      refine Eq.goes (fun _ => hgo) ?_
      refine Gq.one 7 rfl (by kernel_rfl) ?_
      refine Sq.val .plain rfl rfl (Still.loadA one5 rfl hp50.1) ?_
      refine Sq.nil ?_
      refine Eq.goes (fun _ => hgo) ?_
      obtain ⟨p63, hp64_w2⟩ := Bytes.at (Own.row ho_w2) (i := i) (by omega) (by omega)
      have hp64o := AtO.of ho_w2 hp64_w2
      refine Gq.st 12 rfl (by kernel_rfl) rfl .plain rfl (fun _ _ _ h => h) hgo (fun w' x => Still.at' sl22 hp64_w2 rfl rfl) ?_
      refine Gq.one 13 rfl (by kernel_rfl) ?_
      refine Sq.storeO one5 ho hp64o .plain rfl rfl rfl (fun w65 g66 ho67 => ?_)
      have hs68 := World.grownBy.size g66
      replace hgo := grown_trans hgo g66
      replace ho := ho67
      refine Sq.nil ?_
      refine Eq.goes (fun _ => hgo) ?_
      refine Gq.one 14 rfl (by kernel_rfl) ?_
      obtain ⟨p69, hp70o⟩ := Own.at ho (i := ((xs.length : Int) - 1 - i)) (by omega) (by first | (simp only [List.length_map]; omega) | (simp; omega))
      refine Sq.atO sl22 hp70o .plain rfl rfl rfl ?_
      refine Sq.nil ?_
      refine Eq.goes (fun h => absurd h (by decide)) ?_
      refine Gq.one 15 rfl (by kernel_rfl) ?_
      refine Sq.storeO one5 ho hp70o .plain rfl rfl rfl (fun w71 g72 ho73 => ?_)
      have hs74 := World.grownBy.size g72
      replace hgo := grown_trans hgo g72
      replace ho := ho73
      refine Sq.nil ?_
      refine Eq.goes (fun h => absurd h (by decide)) ?_
      refine Gq.done (by kernel_rfl) ?_
      refine Eq.end ?_
      refine Eq.next ?_
      refine Cq.region ?_
      refine Sq.move .plain rfl rfl ?_
      refine Sq.add .plain rfl rfl rfl (by omega) ?_
      refine Sq.move .plain rfl rfl ?_
      refine Sq.sub .plain rfl rfl rfl (by omega) ?_
      refine Sq.assign .plain rfl rfl ?_
      refine Sq.assign .plain rfl rfl ?_
      refine Sq.nil ?_
      have e1 := toNat_succ hi.1
      have e2 : (((xs.length : Int) - 1 - i) - 1) = (xs.length : Int) - 1 - (i + 1) := by omega
      have e3 := hr.step (by omega)
      have e4 : ((xs.length : Int) - 1 - i).toNat = xs.length - 1 - i.toNat := by omega
      rw [e2]
      refine Eq.round _ _ ⟨i + 1, _, rfl, by omega, Own.setU2 ho, by rw [e1, e4]; exact e3, hgo, rfl⟩ (by omega) (.cons rfl (.cons rfl (.cons rfl (.nil))))
    refine Sq.val .plain rfl rfl (Still.loadA one5 rfl hp48.1) ?_
    refine Sq.nil ?_
    refine Eq.goes (fun _ => hgo) ?_
    refine Gq.one 6 rfl (by kernel_rfl) ?_
    obtain ⟨p75, hp76⟩ := Bytes.at (Own.row ho) (i := ((xs.length : Int) - 1 - i)) (by omega) (by omega)
    refine Sq.val .plain rfl rfl (Still.at' sl22 hp76 rfl rfl) ?_
    refine Sq.nil ?_
    refine Eq.goes (fun _ => hgo) ?_
    refine Gq.one 7 rfl (by kernel_rfl) ?_
    refine Sq.val .plain rfl rfl (Still.loadA one5 rfl hp76.1) ?_
    refine Sq.nil ?_
    refine Eq.goes (fun _ => hgo) ?_
    obtain ⟨p77, hp78_w2⟩ := Bytes.at (Own.row ho_w2) (i := i) (by omega) (by omega)
    have hp78o := AtO.of ho_w2 hp78_w2
    refine Gq.st 12 rfl (by kernel_rfl) rfl .plain rfl (fun _ _ _ h => h) hgo (fun w' x => Still.at' sl22 hp78_w2 rfl rfl) ?_
    refine Gq.one 13 rfl (by kernel_rfl) ?_
    refine Sq.storeO one5 ho hp78o .plain rfl rfl rfl (fun w79 g80 ho81 => ?_)
    have hs82 := World.grownBy.size g80
    replace hgo := grown_trans hgo g80
    replace ho := ho81
    refine Sq.nil ?_
    refine Eq.goes (fun _ => hgo) ?_
    refine Gq.one 14 rfl (by kernel_rfl) ?_
    obtain ⟨p83, hp84o⟩ := Own.at ho (i := ((xs.length : Int) - 1 - i)) (by omega) (by first | (simp only [List.length_map]; omega) | (simp; omega))
    refine Sq.atO sl22 hp84o .plain rfl rfl rfl ?_
    refine Sq.nil ?_
    refine Eq.goes (fun h => absurd h (by decide)) ?_
    refine Gq.one 15 rfl (by kernel_rfl) ?_
    refine Sq.storeO one5 ho hp84o .plain rfl rfl rfl (fun w85 g86 ho87 => ?_)
    have hs88 := World.grownBy.size g86
    replace hgo := grown_trans hgo g86
    replace ho := ho87
    refine Sq.nil ?_
    refine Eq.goes (fun h => absurd h (by decide)) ?_
    refine Gq.done (by kernel_rfl) ?_
    refine Eq.end ?_
    refine Eq.next ?_
    refine Cq.region ?_
    refine Sq.move .plain rfl rfl ?_
    refine Sq.add .plain rfl rfl rfl (by omega) ?_
    refine Sq.move .plain rfl rfl ?_
    refine Sq.sub .plain rfl rfl rfl (by omega) ?_
    refine Sq.assign .plain rfl rfl ?_
    refine Sq.assign .plain rfl rfl ?_
    refine Sq.nil ?_
    have e1 := toNat_succ hi.1
    have e2 : (((xs.length : Int) - 1 - i) - 1) = (xs.length : Int) - 1 - (i + 1) := by omega
    have e3 := hr.step (by omega)
    have e4 : ((xs.length : Int) - 1 - i).toNat = xs.length - 1 - i.toNat := by omega
    rw [e2]
    refine Eq.round _ _ ⟨i + 1, _, rfl, by omega, Own.setU2 ho, by rw [e1, e4]; exact e3, hgo, rfl⟩ (by omega) (.cons rfl (.cons rfl (.cons rfl (.nil))))
  refine Sq.nil ?_
  refine Eq.next ?_
  refine Cq.els rfl ?_
  refine Cq.exit ?_
  refine Eq.past ?_
  refine Eq.past ?_
  refine Eq.hit ?_
  refine Eq.fall0 rfl ?_
  exact ⟨rfl, by rw [← hr.done (by omega)]; exact ho, hgo⟩
end Go.Proofs.Ytdejmfkpohgamaa
set_option linter.unusedSimpArgs false
set_option linter.unusedVariables false
namespace Go.Proofs.Ytdejmfkpohgamaa
open Go.RowKit
set_option maxRecDepth 100000 in
theorem pathWord_c (w0 : World) (B : Nat) (tv : Value) (rs : List (Int × Int × Value)) (f : Int → Int → Int) (s : Int) (ws : List (List Int)) (hW : Wid w0 B 118 3 tv (rows3 rs)) (hSt : Trail w0 3 f s ws rs) (wd : List Int) (hwd : ws[ws.length - 1]? = some wd) (hwl : wd.length ≤ 1000) (hsl : ws.length ≤ 1000) : Ret Try.prog 117 #[tv] w0 (fun v w => v = .string (txt wd) ∧ Ext w0 w) := by
  have E := Ext.refl w0
  have hwn := (List.getElem?_eq_some_iff.1 hwd).1
  have hrl := hSt.len
  refine Ret.of (args := [tv]) Try.func117 rfl rfl rfl ?_
  rintro _ rfl
  show Cq _ _ _ _ [(0, tv)] _
  refine Cq.seq ?_
  refine Cq.region ?_
  refine Sq.assign .plain rfl rfl ?_
  refine Sq.nil ?_
  refine Eq.next ?_
  refine Cq.seq ?_
  refine Cq.region ?_
  refine Sq.assign .plain rfl rfl ?_
  refine Sq.nil ?_
  refine Eq.next ?_
  refine Cq.seq ?_
  refine Cq.seq ?_
  refine Cq.region ?_
  refine Sq.move .plain rfl rfl ?_
  refine Sq.lenWid hW .plain rfl und116 rfl ?_
  rw [rows3_length]
  refine Sq.sub .plain rfl rfl rfl (by omega) ?_
  refine Sq.assign .plain rfl rfl ?_
  refine Sq.nil ?_
  refine Eq.next ?_
  refine Cq.block ?_
  refine Cq.loop (fun nn w ls => ∃ (j : Int), ∃ (u : List Int), ∃ (t : List Int), ∃ (ov : Value), ls = [(0, tv), (3, ov), (4, Value.int .i64 j)] ∧ (0 ≤ j) ∧ ws[j.toNat]? = some u ∧ wd = u ++ t ∧ Own w w0.heap.size 5 ov ((txb t.reverse).map fun b => Value.int .u8 (b.toNat : Int)) ∧ Ext w0 w ∧ Wid w B 118 3 tv (rows3 rs) ∧ nn = u.length) _ _ ⟨(List.length rs : Int) - 1, wd, [], _, rfl, by omega, by rw [show ((List.length rs : Int) - 1).toNat = ws.length - 1 by omega]; exact hwd, by simp, Own.nil _ _ _, E, hW, rfl⟩ (.cons rfl (.cons rfl (.cons rfl (.nil)))) ?_
  rintro nn wl1 ls ⟨j, u, t, ov, rfl, hj, hu, hut, ho, E, hW, rfl⟩
  have hs1 := Below.size E
  obtain ⟨p, l, fv, hr, hlk, hfv⟩ := hSt.row _ _ hu
  have hlt := (List.getElem?_eq_some_iff.1 hr).1
  have htl : t.length ≤ 1000 := by rw [hut, List.length_append] at hwl; omega
  have htx : (txb t.reverse).length = t.length := by simp [txb]
  refine Cq.seq ?_
  refine Cq.seq ?_
  refine Cq.region ?_
  refine Sq.move .plain rfl rfl ?_
  refine Sq.move .plain rfl rfl ?_
  obtain ⟨gq2, kq2, hvq2, hlq2, haq2, hbq2, hcq2⟩ := Wid.triple hW (i := j) (by omega) hr
  refine Sq.val .plain rfl rfl (Still.ixV slw116 hvq2 rfl rfl (by omega)) ?_
  refine Sq.fieldAddr fld118_0 .plain rfl rfl ?_
  refine Sq.val .plain rfl rfl (Still.load one3 rfl haq2) ?_
  refine Sq.geq .plain rfl rfl rfl ?_
  refine Sq.part (fun hp => ?_) (fun hp => ?_)
  · refine Sq.nil ?_
    refine Eq.next ?_
    refine Cq.thn rfl ?_
    refine Cq.skip ?_
    refine Eq.next ?_
    refine Cq.seq ?_
    refine Cq.block ?_
    refine Cq.region ?_
    obtain ⟨u2, hu2, hp0, hu3⟩ : ∃ u2, u = u2 ++ [l] ∧ 0 ≤ p ∧ ws[p.toNat]? = some u2 := hlk.resolve_left (fun h => by have := h.2; omega)
    have hll := hSt.lets u (List.mem_of_getElem? hu) l (by rw [hu2]; simp)
    refine Sq.move .plain rfl rfl ?_
    refine Sq.move .plain rfl rfl ?_
    refine Sq.move .plain rfl rfl ?_
    obtain ⟨gq3, kq3, hvq3, hlq3, haq3, hbq3, hcq3⟩ := Wid.triple hW (i := j) (by omega) hr
    refine Sq.val .plain rfl rfl (Still.ixV slw116 hvq3 rfl rfl (by omega)) ?_
    refine Sq.fieldAddr fld118_1 .plain rfl rfl ?_
    refine Sq.val .plain rfl rfl (Still.load one3 rfl hbq3) ?_
    refine Sq.call fn131 .plain rfl rfl (letterByte_c l (by omega) _) ?_
    rintro _ _ ⟨rfl, rfl⟩
    refine Sq.app1 sl22 ho (by omega) (by first | omega | (rw [List.length_map]; omega)) .plain rfl rfl rfl rfl rfl rfl rfl (fun v4 w5 ho7 g6 _ => ?_)
    have hs8 := g6.size
    replace E := E.owned ho g6 (by omega)
    replace hW := hW.owned ho g6 (by decide)
    refine Sq.assign .plain rfl rfl ?_
    refine Sq.nil ?_
    refine Eq.end ?_
    refine Eq.next ?_
    refine Cq.region ?_
    refine Sq.move .plain rfl rfl ?_
    refine Sq.move .plain rfl rfl ?_
    obtain ⟨gq9, kq9, hvq9, hlq9, haq9, hbq9, hcq9⟩ := Wid.triple hW (i := j) (by omega) hr
    refine Sq.val .plain rfl rfl (Still.ixV slw116 hvq9 rfl rfl (by omega)) ?_
    refine Sq.fieldAddr fld118_0 .plain rfl rfl ?_
    refine Sq.val .plain rfl rfl (Still.load one3 rfl haq9) ?_
    refine Sq.assign .plain rfl rfl ?_
    refine Sq.nil ?_
    refine Eq.round _ _ ⟨p, u2, l :: t, _, rfl, hp0, hu3, by rw [hut, hu2]; simp, Own.snocT ho7 hll, E, hW, rfl⟩ (by rw [hu2, List.length_append]; simp) (.cons rfl (.cons rfl (.cons rfl (.nil))))
  refine Sq.nil ?_
  refine Eq.next ?_
  refine Cq.els rfl ?_
  refine Cq.exit ?_
  refine Eq.past ?_
  refine Eq.past ?_
  refine Eq.hit ?_
  refine Eq.next ?_
  refine Cq.seq ?_
  refine Cq.region ?_
  refine Sq.move .plain rfl rfl ?_
  refine Sq.call fn132 .plain rfl rfl (reverse_c _ _ _ _ ho (by omega)) ?_
  rintro _ w10 ⟨rfl, ho12, g11⟩
  have hs13 := World.grownBy.size g11
  replace E := E.owned ho g11 (by omega)
  replace ho := ho12
  refine Sq.nil ?_
  refine Eq.next ?_
  refine Cq.seq ?_
  refine Cq.region ?_
  refine Sq.move .plain rfl rfl ?_
  refine Sq.val .plain rfl rfl (Still.text und22 und8_22 und9 (Own.row ho) rfl) ?_
  refine Sq.assign .plain rfl rfl ?_
  refine Sq.nil ?_
  refine Eq.next ?_
  refine Cq.ret ?_
  refine Eq.ret1 rfl rfl ?_
  rcases hlk with ⟨rfl, _⟩ | ⟨_, _, h0, _⟩
  · exact ⟨by rw [txb_rev, hut]; rfl, E⟩
  exact absurd h0 (by omega)
end Go.Proofs.Ytdejmfkpohgamaa
set_option linter.unusedSimpArgs false
set_option linter.unusedVariables false
namespace Go.Proofs.Ytdejmfkpohgamaa
open Go.RowKit
set_option maxRecDepth 100000 in
theorem visit_c (w0 wb : World) (B bs bt bg n : Nat) (gv nv : Value) (f : Int → Int → Int) (s : Int) (ws : List (List Int)) (D : Int → Prop) (G : Int → Bool) (hclo : GClo Try.prog wb gv D G) (hM : SMem wb w0 3 4 24 118 116 73 B bs bt bg gv n f s ws) (p l q : Int) (v0 : List Int) (hq : q = nodeOf f s v0) (hx : Ints w0 3 nv [q]) (hl : Link ws p l v0) (hv0 : ∀ x ∈ v0, 0 ≤ x ∧ x < 6) (hD : D q) (hqn : 0 ≤ q ∧ q < n) (hwl : ws.length ≤ 1000) : Ret Try.prog 116 #[Value.int .i64 p, Value.int .i64 l, nv, Value.pointer (some ⟨bs, 0, none⟩), Value.pointer (some ⟨bg, 0, none⟩), Value.pointer (some ⟨bt, 0, none⟩)] w0 (fun v w => v = .bool (!decide (q ∈ (ws.map (nodeOf f s))) && G q) ∧ SMem wb w 3 4 24 118 116 73 B bs bt bg gv n f s (wadd f s ws v0)) := by
  obtain ⟨sv, tv, rs, hSb, hSeen, hTb, hW, hSt, hGb, E, hB0, hB1, hB2, hB3⟩ := hM
  obtain ⟨kg, fg, cg, hgv, hFg, hgoal⟩ := hclo
  have hrl := hSt.len
  have hwb := Below.size E
  have hne1 := hSb.ne hTb (by decide)
  have hne2 := hGb.ne hTb (by decide)
  have hne3 := hGb.ne hSb (by decide)
  refine Ret.of (args := [Value.int .i64 p, Value.int .i64 l, nv, Value.pointer (some ⟨bs, 0, none⟩), Value.pointer (some ⟨bg, 0, none⟩), Value.pointer (some ⟨bt, 0, none⟩)]) Try.func116 rfl rfl rfl ?_
  rintro _ rfl
  show Cq _ _ _ _ [(0, Value.int .i64 p), (1, Value.int .i64 l), (2, nv), (3, Value.pointer (some ⟨bs, 0, none⟩)), (4, Value.pointer (some ⟨bg, 0, none⟩)), (5, Value.pointer (some ⟨bt, 0, none⟩))] _
  refine Cq.seq ?_
  refine Cq.region ?_
  refine Sq.assign .plain rfl rfl ?_
  refine Sq.nil ?_
  refine Eq.next ?_
  refine Cq.seq ?_
  refine Cq.region ?_
  refine Sq.assign .plain rfl rfl ?_
  refine Sq.nil ?_
  refine Eq.next ?_
  refine Cq.seq ?_
  refine Cq.region ?_
  refine Sq.assign .plain rfl rfl ?_
  refine Sq.nil ?_
  refine Eq.next ?_
  refine Cq.seq ?_
  refine Cq.seq ?_
  refine Cq.region ?_
  refine Sq.move .plain rfl rfl ?_
  refine Sq.lenInts hx .plain rfl und56 rfl ?_
  refine Sq.move .plain rfl rfl ?_
  refine Sq.nil ?_
  refine Eq.next ?_
  refine Cq.block ?_
  refine Cq.loop (fun nn w ls => ∃ (k : Int), ∃ (ov : Value), ∃ (xs : List Int), ∃ (ms : List Int), ∃ (bv : Bool), ls = [(0, Value.int .i64 p), (1, Value.int .i64 l), (3, Value.pointer (some ⟨bs, 0, none⟩)), (4, Value.pointer (some ⟨bg, 0, none⟩)), (5, Value.pointer (some ⟨bt, 0, none⟩)), (10, ov), (11, Value.bool bv), (14, nv), (15, Value.int .i64 ((List.length ([q] : List Int) : Int))), (16, Value.int .i64 k)] ∧ (0 ≤ k ∧ k ≤ 1) ∧ (w0.heap.size ≤ w.heap.size) ∧ Own w B 4 sv ((seenOf n ms).map Value.bool) ∧ ms = (if k = 0 then (ws.map (nodeOf f s)) else addNode (ws.map (nodeOf f s)) q) ∧ (k = 0 → ov = .slice none 0 0) ∧ Own w w0.heap.size 3 ov (xs.map (Value.int .i64)) ∧ xs = (if k = 0 ∨ q ∈ (ws.map (nodeOf f s)) then [] else [q]) ∧ bv = (decide (k = 1) && (!decide (q ∈ (ws.map (nodeOf f s))) && G q)) ∧ Ext wb w ∧ Blk w bs 24 [sv] ∧ Blk w bg 73 [gv] ∧ Blk w bt 116 [tv] ∧ Wid w B 118 3 tv (rows3 rs) ∧ Ints w 3 nv [q] ∧ Trail w 3 f s ws rs ∧ nn = (1 - k).toNat) _ _ ⟨0, _, [], _, _, rfl, by omega, Nat.le_refl _, hSeen, rfl, fun _ => rfl, Own.nil _ _ _, rfl, rfl, E, hSb, hGb, hTb, hW, hx, hSt, rfl⟩ (.cons rfl (.cons rfl (.cons rfl (.cons rfl (.cons rfl (.cons rfl (.cons rfl (.cons rfl (.cons rfl (.cons rfl (.nil))))))))))) ?_
  rintro nn wl1 ls ⟨k, ov, xs, ms, bv, rfl, hk, hsz, hSeen, hms, hov, ho, hxs, hbv, E, hSb, hGb, hTb, hW, hx, hSt, rfl⟩
  have hs1 := Below.size E
  have hsl := seenOf_length n ms
  have hl1 : (List.length ([q] : List Int) : Int) = 1 := rfl
  refine Cq.seq ?_
  refine Cq.region ?_
  refine Sq.lss .plain rfl rfl rfl ?_
  refine Sq.part (fun c2 => ?_) (fun c2 => ?_)
  · refine Sq.nil ?_
    refine Eq.next ?_
    refine Cq.seq ?_
    refine Cq.thn rfl ?_
    refine Cq.skip ?_
    refine Eq.next ?_
    refine Cq.seq ?_
    refine Cq.block ?_
    refine Cq.seq ?_
    refine Cq.region ?_
    have hk0 : k = 0 := by omega
    obtain rfl := hov hk0
    have hms0 : ms = (ws.map (nodeOf f s)) := by rw [hms, if_pos hk0]
    have hk1 : ([q] : List Int).getD k.toNat 0 = q := by rw [hk0]; rfl
    refine Sq.idxInts sl56 one3 hx .plain rfl rfl rfl .plain rfl rfl (by omega) (by simp only [List.length_singleton]; omega) ?_
    rw [hk1]
    refine Sq.assign .plain rfl rfl ?_
    refine Sq.nil ?_
    refine Eq.next ?_
    refine Cq.seq ?_
    refine Cq.region ?_
    refine Sq.loadB one24 .plain rfl rfl hSb rfl ?_
    refine Sq.move .plain rfl rfl ?_
    refine Sq.idxBools sl24 one4 (Own.row hSeen) .plain rfl rfl rfl .plain rfl rfl (by omega) (by omega) ?_
    refine Sq.partB (fun hse => ?_) (fun hse => ?_)
    · refine Sq.notT .plain rfl rfl ?_
      refine Sq.nil ?_
      refine Eq.next ?_
      refine Cq.els rfl ?_
      refine Cq.skip ?_
      refine Eq.end ?_
      refine Eq.next ?_
      refine Cq.region ?_
      refine Sq.add .plain rfl rfl rfl (by omega) ?_
      refine Sq.move .plain rfl rfl ?_
      refine Sq.nil ?_
      have hnin : q ∈ (ws.map (nodeOf f s)) := by rw [seenOf_at hqn, hms0] at hse; simpa using hse
      refine Eq.round _ _ ⟨k + 1, _, [], _, _, rfl, by omega, by omega, hSeen, by rw [if_neg (by omega), addNode_T hnin, hms0], fun h => absurd h (by omega), Own.nil _ _ _, by rw [if_pos (.inr hnin)], by rw [hbv]; simp [hk0, hnin], E, hSb, hGb, hTb, hW, hx, hSt, rfl⟩ (by omega) (.cons rfl (.cons rfl (.cons rfl (.cons rfl (.cons rfl (.cons rfl (.cons rfl (.cons rfl (.cons rfl (.cons rfl (.nil)))))))))))
    refine Sq.notF .plain rfl rfl ?_
    refine Sq.nil ?_
    refine Eq.next ?_
    refine Cq.thn rfl ?_
    refine Cq.seq ?_
    refine Cq.region ?_
    refine Sq.loadB one24 .plain rfl rfl hSb rfl ?_
    refine Sq.move .plain rfl rfl ?_
    obtain ⟨p3, hp4o⟩ := Own.at hSeen (i := q) (by omega) (by first | (simp only [List.length_map]; omega) | (simp; omega))
    refine Sq.atO sl24 hp4o .plain rfl rfl rfl ?_
    refine Sq.storeO one4 hSeen hp4o .plain rfl rfl rfl (fun w5 g6 ho7 => ?_)
    have hs8 := World.grownBy.size g6
    replace E := E.owned hSeen g6 (by omega)
    replace hSb := hSb.owned hSeen g6 (by decide)
    replace hGb := hGb.owned hSeen g6 (by decide)
    replace hTb := hTb.owned hSeen g6 (by decide)
    replace hW := hW.owned hSeen g6 (by decide)
    replace hx := hx.owned hSeen g6 (by decide)
    replace hSt := hSt.owned hSeen g6 (by decide)
    replace hSeen := ho7
    refine Sq.nil ?_
    refine Eq.next ?_
    refine Cq.seq ?_
    refine Cq.region ?_
    refine Sq.move .plain rfl rfl ?_
    refine Sq.move .plain rfl rfl ?_
    refine Sq.lit sl56 rfl rfl .plain rfl rfl (one_cons rfl one_nil) (fun b9 w10 e11 hlo12 ho13 hk14 => ?_)
    have hs15 := Below.size e11
    replace E := E.trans e11
    replace hSb := hSb.ext e11
    replace hGb := hGb.ext e11
    replace hTb := hTb.ext e11
    replace hW := hW.ext e11
    replace hx := hx.ext e11
    replace hSt := hSt.ext e11
    replace hSeen := hSeen.ext e11
    refine Sq.app1F sl56 (Own.nil _ w0.heap.size 3) (by simp) (by omega) (by simp) hk14 rfl .plain rfl rfl rfl (fun v16 w17 ho19 g18 _ _ => ?_)
    have e20 := Ext.of_grown g18
    have hs21 := Below.size e20
    replace E := E.trans e20
    replace hSb := hSb.ext e20
    replace hGb := hGb.ext e20
    replace hTb := hTb.ext e20
    replace hW := hW.ext e20
    replace hx := hx.ext e20
    replace hSt := hSt.ext e20
    replace hSeen := hSeen.ext e20
    refine Sq.assign .plain rfl rfl ?_
    refine Sq.nil ?_
    refine Eq.next ?_
    refine Cq.region ?_
    refine Sq.move .plain rfl rfl ?_
    refine Sq.beF (by rw [hbv, hk0]; rfl) ?_
    refine Sq.move .plain rfl rfl ?_
    refine Sq.loadB one73 (.met rfl rfl rfl) rfl rfl hGb rfl ?_
    refine Sq.move (.met rfl rfl rfl) rfl rfl ?_
    refine Sq.callC hFg (.met rfl rfl rfl) rfl (by rw [← hgv]; rfl) rfl (hgoal _ q E hD) ?_
    rintro _ w22 ⟨rfl, e23⟩
    have hs24 := Below.size e23
    replace E := E.trans e23
    replace hSb := hSb.ext e23
    replace hGb := hGb.ext e23
    replace hTb := hTb.ext e23
    replace hW := hW.ext e23
    replace hx := hx.ext e23
    replace hSt := hSt.ext e23
    replace hSeen := hSeen.ext e23
    replace ho19 := ho19.ext e23
    refine Sq.pickF .plain rfl rfl rfl ?_
    refine Sq.assign .plain rfl rfl ?_
    refine Sq.partB (fun hgq => ?_) (fun hgq => ?_)
    · refine Sq.nil ?_
      refine Eq.end ?_
      refine Eq.next ?_
      refine Cq.region ?_
      refine Sq.add .plain rfl rfl rfl (by omega) ?_
      refine Sq.move .plain rfl rfl ?_
      refine Sq.nil ?_
      have hnin : q ∉ (ws.map (nodeOf f s)) := by rw [seenOf_at hqn, hms0] at hse; simpa using hse
      refine Eq.round _ _ ⟨k + 1, _, [q], _, _, rfl, by omega, by omega, by rw [← seenOf_set hqn.1, List.map_set]; exact hSeen, by rw [if_neg (by omega), addNode_F hnin, hms0], fun h => absurd h (by omega), by simpa using ho19, by rw [if_neg (by rintro (h | h); omega; exact hnin h)], by simp [hk0, hnin, hgq], E, hSb, hGb, hTb, hW, hx, hSt, rfl⟩ (by omega) (.cons rfl (.cons rfl (.cons rfl (.cons rfl (.cons rfl (.cons rfl (.cons rfl (.cons rfl (.cons rfl (.cons rfl (.nil)))))))))))
    refine Sq.nil ?_
    refine Eq.end ?_
    refine Eq.next ?_
    refine Cq.region ?_
    refine Sq.add .plain rfl rfl rfl (by omega) ?_
    refine Sq.move .plain rfl rfl ?_
    refine Sq.nil ?_
    have hnin : q ∉ (ws.map (nodeOf f s)) := by rw [seenOf_at hqn, hms0] at hse; simpa using hse
    refine Eq.round _ _ ⟨k + 1, _, [q], _, _, rfl, by omega, by omega, by rw [← seenOf_set hqn.1, List.map_set]; exact hSeen, by rw [if_neg (by omega), addNode_F hnin, hms0], fun h => absurd h (by omega), by simpa using ho19, by rw [if_neg (by rintro (h | h); omega; exact hnin h)], by simp [hk0, hnin, hgq], E, hSb, hGb, hTb, hW, hx, hSt, rfl⟩ (by omega) (.cons rfl (.cons rfl (.cons rfl (.cons rfl (.cons rfl (.cons rfl (.cons rfl (.cons rfl (.cons rfl (.cons rfl (.nil)))))))))))
  refine Sq.nil ?_
  refine Eq.next ?_
  refine Cq.seq ?_
  refine Cq.els rfl ?_
  refine Cq.exit ?_
  refine Eq.past ?_
  refine Eq.past ?_
  refine Eq.hit ?_
  refine Eq.next ?_
  refine Cq.seq ?_
  refine Cq.seq ?_
  refine Cq.region ?_
  have hkk : k = 1 := by omega
  refine Sq.move .plain rfl rfl ?_
  refine Sq.lenInts (Own.row ho) .plain rfl und56 rfl ?_
  refine Sq.gtr .plain rfl rfl rfl ?_
  refine Sq.part (fun hfr => ?_) (fun hfr => ?_)
  · refine Sq.nil ?_
    refine Eq.next ?_
    refine Cq.thn rfl ?_
    refine Cq.region ?_
    have hnin : q ∉ (ws.map (nodeOf f s)) := fun h => by rw [hxs, if_pos (.inr h)] at hfr; exact absurd hfr (by decide)
    have hx1 : (xs.map (Value.int .i64)) = [q].map (Value.int .i64) := by rw [hxs, if_neg (by rintro (h | h); omega; exact hnin h)]
    refine Sq.loadB one116 .plain rfl rfl hTb rfl ?_
    refine Sq.move .plain rfl rfl ?_
    refine Sq.move .plain rfl rfl ?_
    refine Sq.move .plain rfl rfl ?_
    refine Sq.build st118 rfl rfl .plain rfl rfl (one_cons rfl (one_cons rfl (one_cons (Row.one (Own.row ho)) one_nil))) rfl ?_
    refine Sq.litW slw116 rfl rfl (by decide) .plain rfl (rows := [[Value.int .i64 p, Value.int .i64 l, ov]]) rfl (fun r hr => by rw [List.mem_singleton.1 hr]; exact ⟨rfl, one_cons rfl (one_cons rfl (one_cons (Row.one (Own.row ho)) one_nil))⟩) (fun b25 w26 e27 hlo28 hw29 hk30 => ?_)
    have hs35 := Below.size e27
    replace E := E.trans e27
    replace hSb := hSb.ext e27
    replace hGb := hGb.ext e27
    replace hTb := hTb.ext e27
    replace hW := hW.ext e27
    replace hSt := hSt.ext e27
    replace hSeen := hSeen.ext e27
    replace ho := ho.ext e27
    refine Sq.appS slw116 hW (by omega) (by rw [rows3_length]; omega) (r := [Value.int .i64 p, Value.int .i64 l, ov]) hk30 ⟨rfl, one_cons rfl (one_cons rfl (one_cons (Row.one (Own.row ho)) one_nil))⟩ .plain rfl rfl rfl (fun v31 w32 hW34 g33 _ _ => ?_)
    have hs36 := World.grownBy.size g33
    replace E := E.wid hW g33 (by omega)
    replace hSb := hSb.wid hW g33 (by decide)
    replace hGb := hGb.wid hW g33 (by decide)
    replace hTb := hTb.wid hW g33 (by decide)
    replace hSt := hSt.wid hW g33 (by decide)
    replace hSeen := hSeen.wid hW g33 (by decide)
    replace ho := ho.wid hW g33 (by decide)
    replace hW : Wid w32 B 118 3 v31 (rows3 (rs ++ [(p, l, ov)])) := by rw [rows3_snoc]; exact hW34
    refine Sq.store one116 .plain rfl rfl (Wid.one hW) hTb (by simp) (fun w37 g38 hB39 => ?_)
    have hs40 := World.grownBy.size g38
    replace E := E.grown g38 (fun k hk => by injection hk with hk; subst hk; omega)
    replace hSb := hSb.grown g38 (by intro h; injection h with h; omega)
    replace hGb := hGb.grown g38 (by intro h; injection h with h; omega)
    replace hW := hW.stored g38 hTb (by decide)
    replace hSt := hSt.stored g38 hTb (by decide)
    replace hSeen := hSeen.stored g38 hTb (by decide)
    replace ho := ho.stored g38 hTb (by decide)
    replace hTb := hB39
    refine Sq.nil ?_
    refine Eq.next ?_
    refine Cq.seq ?_
    refine Cq.region ?_
    refine Sq.move .plain rfl rfl ?_
    refine Sq.assign .plain rfl rfl ?_
    refine Sq.nil ?_
    refine Eq.next ?_
    refine Cq.ret ?_
    refine Eq.ret1 rfl rfl ?_
    have hq2 := hq
    have hn2 : nodeOf f s v0 ∉ (ws.map (nodeOf f s)) := by rw [← hq]; exact hnin
    refine ⟨by rw [hbv]; simp [hkk, hnin], ?_⟩
    rw [wadd_F hn2]
    rw [hms, if_neg (by omega), addNode_F hnin] at hSeen
    exact ⟨sv, _, _, hSb, by rw [List.map_append, List.map_cons, List.map_nil, ← hq]; exact hSeen, hTb, hW, hSt.snoc hl (by rw [← hq]; show Row _ _ _ ([q].map (Value.int .i64)); rw [← hx1]; exact Own.row ho) hv0, hGb, E, by omega, by omega, by omega, by omega⟩
  refine Sq.nil ?_
  refine Eq.next ?_
  refine Cq.els rfl ?_
  refine Cq.skip ?_
  refine Eq.next ?_
  refine Cq.seq ?_
  refine Cq.region ?_
  have hnin : q ∈ (ws.map (nodeOf f s)) := Classical.byContradiction fun h => hfr (by rw [hxs, if_neg (by rintro (h' | h'); omega; exact h h')]; show (0 : Int) < 1; decide)
  refine Sq.move .plain rfl rfl ?_
  refine Sq.assign .plain rfl rfl ?_
  refine Sq.nil ?_
  refine Eq.next ?_
  refine Cq.ret ?_
  refine Eq.ret1 rfl rfl ?_
  have hn2 : nodeOf f s v0 ∈ (ws.map (nodeOf f s)) := by rw [← hq]; exact hnin
  refine ⟨by rw [hbv]; simp [hkk, hnin], ?_⟩
  rw [wadd_T hn2]
  rw [hms, if_neg (by omega), addNode_T hnin] at hSeen
  exact ⟨sv, _, _, hSb, hSeen, hTb, hW, hSt, hGb, E, by omega, by omega, by omega, by omega⟩
end Go.Proofs.Ytdejmfkpohgamaa
set_option linter.unusedSimpArgs false
set_option linter.unusedVariables false
namespace Go.Proofs.Ytdejmfkpohgamaa
open Go.RowKit
set_option maxRecDepth 100000 in
theorem firstPath_c (w0 : World) (nI : Int) (n : Nat) (s : Int) (L : List Int) (sv0 lv fv gv : Value) (f : Int → Int → Int) (G : Int → Bool) (D : Int → Prop) (hnI : nI = n) (hs0 : Ints w0 3 sv0 [s]) (hx : Ints w0 3 lv L) (hLl : L.length ≤ 100) (hL : ∀ x ∈ L, 0 ≤ x ∧ x < 6) (hD0 : D s) (hD : ∀ q, D q → ∀ x ∈ L, D (f q x)) (hDn : ∀ q, D q → 0 ≤ q ∧ q < n) (hn : n ≤ 150) (hclo : NClo Try.prog w0 3 fv D f) (hgo : GClo Try.prog w0 gv D G) : Ret Try.prog 95 #[Value.int .i64 nI, sv0, lv, fv, gv] w0 (fun v w => v = .tuple #[.string (txt ((firstOf f s L G).getD [])), .bool (firstOf f s L G).isSome] ∧ Ext w0 w) := by
  have E := Ext.refl w0
  have hgo2 := hgo
  obtain ⟨kg, fg, cg, hgv0, hFg0, hgoal0⟩ := hgo2
  obtain ⟨kf, fnf, cf, hfv0, hFn, hcall⟩ := hclo
  have hbw := bfsw_range (f := f) (s := s) (L := L) hD0 hD hDn
  refine Ret.of (args := [Value.int .i64 nI, sv0, lv, fv, gv]) Try.func95 rfl rfl rfl ?_
  rintro _ rfl
  show Cq _ _ _ _ [(0, Value.int .i64 nI), (1, sv0), (2, lv), (3, fv), (4, gv)] _
  refine Cq.seq ?_
  refine Cq.region ?_
  refine Sq.box1 .plain rfl rfl (by rw [hgv0]; rfl) (fun b1 w2 e3 hB4 hlo5 => ?_)
  have hd6 := Nat.le_trans (Below.size E) hlo5
  have hs7 := Below.size e3
  replace E := E.trans e3
  refine Sq.assign .plain rfl rfl ?_
  refine Sq.assign .plain rfl rfl ?_
  refine Sq.nil ?_
  refine Eq.next ?_
  refine Cq.seq ?_
  refine Cq.region ?_
  refine Sq.move .plain rfl rfl ?_
  refine Sq.make sl24 .plain rfl rfl rfl rfl (by omega) (fun b8 w9 e10 hlo11 hB12 => ?_)
  replace hB12 := hB12 w2.heap.size (Nat.le_refl _)
  have hs13 := Below.size e10
  replace E := E.trans e10
  replace hB4 := hB4.ext e10
  refine Sq.alloc1 zero24 rfl .plain rfl (fun b14 w15 e16 hB17 hlo18 => ?_)
  have hd19 := Nat.le_trans (Below.size E) hlo18
  have hd20 := Nat.lt_of_lt_of_le hB4.lt hlo18
  have hs21 := Below.size e16
  replace E := E.trans e16
  replace hB4 := hB4.ext e16
  replace hB12 := hB12.ext e16
  refine Sq.store one24 .plain rfl rfl (Row.one (Own.row hB12)) hB17 (by simp) (fun w22 g23 hB24 => ?_)
  have hs25 := World.grownBy.size g23
  replace E := E.grown g23 (fun k hk => by injection hk with hk; subst hk; omega)
  replace hB4 := hB4.grown g23 (by intro h; injection h with h; omega)
  replace hB12 := hB12.stored g23 hB17 (by decide)
  replace hB17 := hB24
  refine Sq.nil ?_
  refine Eq.next ?_
  refine Cq.seq ?_
  refine Cq.region ?_
  refine Sq.alloc1 zero116 rfl .plain rfl (fun b26 w27 e28 hB29 hlo30 => ?_)
  have hd31 := Nat.le_trans (Below.size E) hlo30
  have hd32 := Nat.lt_of_lt_of_le hB4.lt hlo30
  have hd33 := Nat.lt_of_lt_of_le hB17.lt hlo30
  have hs34 := Below.size e28
  replace E := E.trans e28
  replace hB4 := hB4.ext e28
  replace hB12 := hB12.ext e28
  replace hB17 := hB17.ext e28
  refine Sq.nil ?_
  refine Eq.next ?_
  refine Cq.seq ?_
  refine Cq.region ?_
  refine Sq.makeFunc .plain rfl rfl ?_
  refine Sq.assign .plain rfl rfl ?_
  refine Sq.nil ?_
  refine Eq.next ?_
  refine Cq.seq ?_
  refine Cq.seq ?_
  refine Cq.region ?_
  refine Sq.move .plain rfl rfl ?_
  refine Sq.move .plain rfl rfl ?_
  have hM : SMem w0 w27 3 4 24 118 116 73 w2.heap.size b14 b26 b1 gv n f s [] := ⟨_, _, [], hB17, Own.seen0 (seen_n (by omega) hB12), hB29, Wid.nil _ _ _ _, Trail.nil _ _ _ _, hB4, E, by omega, by omega, by omega, by omega⟩
  refine Sq.callC fn116 .plain rfl rfl rfl (visit_c _ _ _ _ _ _ _ _ _ f s _ D G hgo hM _ _ s [] rfl (hs0.ext E) (.inl ⟨rfl, rfl⟩) (by simp) hD0 (hDn _ hD0) (by simp)) ?_
  rintro _ w35 ⟨rfl, hM'⟩
  clear hM
  have hM := hM'
  clear hM'
  replace E := SMem.base hM
  have hs37 := Below.size E
  refine Sq.partB (fun hg0 => ?_) (fun hg0 => ?_)
  · refine Sq.nil ?_
    refine Eq.next ?_
    refine Cq.thn rfl ?_
    refine Cq.seq ?_
    refine Cq.region ?_
    refine Sq.assign .plain rfl rfl ?_
    refine Sq.assign .plain rfl rfl ?_
    refine Sq.nil ?_
    refine Eq.next ?_
    refine Cq.ret ?_
    refine Eq.pastRet ?_
    refine Eq.ret2 rfl rfl rfl ?_
    have e1 := first_here (f := f) (L := L) (by simpa using hg0 : G s = true)
    exact ⟨by rw [e1]; rfl, E⟩
  refine Sq.nil ?_
  refine Eq.next ?_
  refine Cq.els rfl ?_
  refine Cq.skip ?_
  refine Eq.next ?_
  refine Cq.seq ?_
  refine Cq.seq ?_
  refine Cq.region ?_
  refine Sq.assign .plain rfl rfl ?_
  refine Sq.nil ?_
  refine Eq.next ?_
  refine Cq.block ?_
  have hw0 : wadd f s [] [] = bfsw f s L 0 := wadd_F (by simp)
  rw [hw0] at hM
  refine Cq.loop (fun nn w ls => ∃ (i : Int), ls = [(2, lv), (3, fv), (13, Value.pointer (some ⟨b26, 0, none⟩)), (14, Value.func (.func 116) #[] #[Value.pointer (some ⟨b14, 0, none⟩), Value.pointer (some ⟨b1, 0, none⟩), Value.pointer (some ⟨b26, 0, none⟩)]), (15, Value.int .i64 i)] ∧ (0 ≤ i ∧ i ≤ (List.length (bfsw f s L i.toNat) : Int)) ∧ SMem w0 w 3 4 24 118 116 73 w2.heap.size b14 b26 b1 gv n f s (bfsw f s L i.toNat) ∧ (∀ v ∈ (bfsw f s L i.toNat), G (nodeOf f s v) = false) ∧ Ext w0 w ∧ nn = (151 - i).toNat) _ _ ⟨0, rfl, ⟨by omega, by show (0 : Int) ≤ ((1 : Nat) : Int); omega⟩, hM, (fun v hv => by rw [show v = [] by simpa [bfsw] using hv]; simpa [nodeOf] using hg0), E, rfl⟩ (.cons rfl (.cons rfl (.cons rfl (.cons rfl (.cons rfl (.nil)))))) ?_
  rintro nn wl1 ls ⟨i, rfl, hi, hM, hG, E, rfl⟩
  have hs38 := Below.size E
  have hbl := hbw i.toNat
  have hbl1 := hbw (i.toNat + 1)
  refine Cq.seq ?_
  refine Cq.seq ?_
  refine Cq.region ?_
  refine Sq.move .plain rfl rfl ?_
  have M39 := hM
  obtain ⟨svM39, tvM39, rsM39, _, _, hTM39, hWM39, hSM39, _⟩ := M39
  refine Sq.loadB one116 .plain rfl rfl hTM39 rfl ?_
  refine Sq.lenWid hWM39 .plain rfl und116 rfl ?_
  rw [rows3_length, hSM39.len]
  refine Sq.lss .plain rfl rfl rfl ?_
  refine Sq.part (fun c40 => ?_) (fun c40 => ?_)
  · refine Sq.nil ?_
    refine Eq.next ?_
    refine Cq.thn rfl ?_
    refine Cq.skip ?_
    refine Eq.next ?_
    refine Cq.seq ?_
    refine Cq.block ?_
    refine Cq.seq ?_
    refine Cq.region ?_
    refine Sq.move .plain rfl rfl ?_
    refine Sq.lenInts (hx.ext E) .plain rfl und56 rfl ?_
    refine Sq.move .plain rfl rfl ?_
    refine Sq.nil ?_
    refine Eq.next ?_
    refine Cq.block ?_
    obtain ⟨u, hu⟩ : ∃ u, (bfsw f s L i.toNat)[i.toNat]? = some u := ⟨_, List.getElem?_eq_getElem (by omega)⟩
    have hDu : D (nodeOf f s u) := nodeOf_in hD0 hD _ _ (List.mem_of_getElem? hu)
    have hul := bfsw_lets (f := f) (s := s) (i := i.toNat) hL u (List.mem_of_getElem? hu)
    refine Cq.loop (fun nn w ls => ∃ (k : Int), ls = [(2, lv), (3, fv), (13, Value.pointer (some ⟨b26, 0, none⟩)), (14, Value.func (.func 116) #[] #[Value.pointer (some ⟨b14, 0, none⟩), Value.pointer (some ⟨b1, 0, none⟩), Value.pointer (some ⟨b26, 0, none⟩)]), (15, Value.int .i64 i), (33, lv), (34, Value.int .i64 (List.length L : Int)), (35, Value.int .i64 k)] ∧ (0 ≤ k ∧ k ≤ L.length) ∧ SMem w0 w 3 4 24 118 116 73 w2.heap.size b14 b26 b1 gv n f s (wmid f s L i.toNat u k.toNat) ∧ (∀ v ∈ (wmid f s L i.toNat u k.toNat), G (nodeOf f s v) = false) ∧ Ext w0 w ∧ nn = ((L.length : Int) - k).toNat) _ _ ⟨0, rfl, by omega, hM, hG, E, rfl⟩ (.cons rfl (.cons rfl (.cons rfl (.cons rfl (.cons rfl (.cons rfl (.cons rfl (.cons rfl (.nil))))))))) ?_
    rintro nn wl2 ls ⟨k, rfl, hk, hM, hG, E, rfl⟩
    have hs41 := Below.size E
    have hmh := (wmid_last (f := f) (s := s) (L := L) (k := k.toNat) hu).length_le
    have hum : (wmid f s L i.toNat u k.toNat)[i.toNat]? = some u := by
      obtain ⟨t, ht⟩ := wmid_more (f := f) (s := s) (L := L) i.toNat u k.toNat
      rw [← ht, List.getElem?_append_left (List.getElem?_eq_some_iff.1 hu).1]; exact hu
    refine Cq.seq ?_
    refine Cq.region ?_
    refine Sq.lss .plain rfl rfl rfl ?_
    refine Sq.part (fun c42 => ?_) (fun c42 => ?_)
    · refine Sq.nil ?_
      refine Eq.next ?_
      refine Cq.seq ?_
      refine Cq.thn rfl ?_
      refine Cq.skip ?_
      refine Eq.next ?_
      refine Cq.seq ?_
      refine Cq.block ?_
      refine Cq.seq ?_
      refine Cq.region ?_
      refine Sq.idxInts sl56 one3 (hx.ext E) .plain rfl rfl rfl .plain rfl rfl (by omega) (by omega) ?_
      refine Sq.assign .plain rfl rfl ?_
      refine Sq.nil ?_
      refine Eq.next ?_
      refine Cq.seq ?_
      refine Cq.region ?_
      refine Sq.assign .plain rfl rfl ?_
      refine Sq.nil ?_
      refine Eq.next ?_
      refine Cq.seq ?_
      refine Cq.seq ?_
      refine Cq.region ?_
      have M43 := hM
      obtain ⟨svM43, tvM43, rsM43, _, _, hTM43, hWM43, hSM43, _⟩ := M43
      obtain ⟨pp, ll, fvv, hr, hlk, hfv⟩ := hSM43.row _ _ hum
      have hlt := (List.getElem?_eq_some_iff.1 hr).1
      refine Sq.loadB one116 .plain rfl rfl hTM43 rfl ?_
      refine Sq.move .plain rfl rfl ?_
      obtain ⟨gq44, kq44, hvq44, hlq44, haq44, hbq44, hcq44⟩ := Wid.triple hWM43 (i := i) (by omega) hr
      refine Sq.val .plain rfl rfl (Still.ixV slw116 hvq44 rfl rfl (by omega)) ?_
      refine Sq.fieldAddr fld118_2 .plain rfl rfl ?_
      refine Sq.val .plain rfl rfl (Still.load one56 rfl hcq44) ?_
      refine Sq.lenInts hfv .plain rfl und56 rfl ?_
      refine Sq.move .plain rfl rfl ?_
      refine Sq.nil ?_
      refine Eq.next ?_
      refine Cq.block ?_
      have hXm : (L.getD k.toNat 0) ∈ L := getD_mem (by omega)
      have hXr := hL _ hXm
      have hlu : ∀ x ∈ u ++ [(L.getD k.toNat 0)], 0 ≤ x ∧ x < 6 := by
        intro x hx
        rcases List.mem_append.1 hx with h | h
        · exact hul x h
        · rw [List.mem_singleton.1 h]; exact hXr
      have hul2 : u.length ≤ 150 := by have := bfsw_lenw hu; omega
      have hone : (List.length ([(nodeOf f s u)] : List Int) : Int) = 1 := rfl
      refine Cq.loop (fun nn w ls => ∃ (j : Int), ∃ (rv : Value), ls = [(2, lv), (3, fv), (13, Value.pointer (some ⟨b26, 0, none⟩)), (14, Value.func (.func 116) #[] #[Value.pointer (some ⟨b14, 0, none⟩), Value.pointer (some ⟨b1, 0, none⟩), Value.pointer (some ⟨b26, 0, none⟩)]), (15, Value.int .i64 i), (17, Value.int .i64 (L.getD k.toNat 0)), (18, rv), (33, lv), (34, Value.int .i64 (List.length L : Int)), (35, Value.int .i64 k), (43, fvv), (44, Value.int .i64 ((List.length ([(nodeOf f s u)] : List Int) : Int))), (45, Value.int .i64 j)] ∧ (0 ≤ j ∧ j ≤ 1) ∧ (j = 0 → rv = .slice none 0 0) ∧ (j = 1 → Ints w 3 rv [f (nodeOf f s u) (L.getD k.toNat 0)]) ∧ Ext w0 w ∧ Ints w 3 fvv [(nodeOf f s u)] ∧ SMem w0 w 3 4 24 118 116 73 w2.heap.size b14 b26 b1 gv n f s (wmid f s L i.toNat u k.toNat) ∧ nn = (1 - j).toNat) _ _ ⟨0, _, rfl, by omega, fun _ => rfl, fun h => absurd h (by decide), E, hfv, hM, rfl⟩ (.cons rfl (.cons rfl (.cons rfl (.cons rfl (.cons rfl (.cons rfl (.cons rfl (.cons rfl (.cons rfl (.cons rfl (.cons rfl (.cons rfl (.cons rfl (.nil)))))))))))))) ?_
      rintro nn wl3 ls ⟨j, rv, rfl, hj, hrv, hrr, E, hfv, hM, rfl⟩
      have hs45 := Below.size E
      refine Cq.seq ?_
      refine Cq.region ?_
      refine Sq.lss .plain rfl rfl rfl ?_
      refine Sq.part (fun c46 => ?_) (fun c46 => ?_)
      · refine Sq.nil ?_
        refine Eq.next ?_
        refine Cq.seq ?_
        refine Cq.thn rfl ?_
        refine Cq.skip ?_
        refine Eq.next ?_
        refine Cq.seq ?_
        refine Cq.block ?_
        refine Cq.seq ?_
        refine Cq.region ?_
        have hj0 : j = 0 := by omega
        obtain rfl := hrv hj0
        have hj1 : ([(nodeOf f s u)] : List Int).getD j.toNat 0 = (nodeOf f s u) := by rw [hj0]; rfl
        refine Sq.idxInts sl56 one3 hfv .plain rfl rfl rfl .plain rfl rfl (by omega) (by simp only [List.length_singleton]; omega) ?_
        rw [hj1]
        refine Sq.assign .plain rfl rfl ?_
        refine Sq.nil ?_
        refine Eq.next ?_
        refine Cq.region ?_
        refine Sq.move .plain rfl rfl ?_
        refine Sq.move .plain rfl rfl ?_
        refine Sq.move .plain rfl rfl ?_
        refine Sq.move .plain rfl rfl ?_
        refine Sq.callC hFn .plain rfl (by rw [← hfv0]; rfl) rfl (hcall _ _ _ E hDu hXr) ?_
        rintro vw47 w47 ⟨ho48, e49⟩
        have hs50 := Below.size e49
        replace E := E.trans e49
        replace hfv := hfv.ext e49
        replace hM := hM.ext e49
        refine Sq.assign .plain rfl rfl ?_
        refine Sq.nil ?_
        refine Eq.end ?_
        refine Eq.next ?_
        refine Cq.region ?_
        refine Sq.add .plain rfl rfl rfl (by omega) ?_
        refine Sq.move .plain rfl rfl ?_
        refine Sq.nil ?_
        refine Eq.round _ _ ⟨j + 1, _, rfl, by omega, fun h => absurd h (by omega), fun _ => Own.row ho48, E, hfv, hM, rfl⟩ (by omega) (.cons rfl (.cons rfl (.cons rfl (.cons rfl (.cons rfl (.cons rfl (.cons rfl (.cons rfl (.cons rfl (.cons rfl (.cons rfl (.cons rfl (.cons rfl (.nil))))))))))))))
      refine Sq.nil ?_
      refine Eq.next ?_
      refine Cq.seq ?_
      refine Cq.els rfl ?_
      refine Cq.exit ?_
      refine Eq.past ?_
      refine Eq.past ?_
      refine Eq.hit ?_
      refine Eq.next ?_
      refine Cq.seq ?_
      refine Cq.region ?_
      refine Sq.move .plain rfl rfl ?_
      refine Sq.move .plain rfl rfl ?_
      refine Sq.move .plain rfl rfl ?_
      refine Sq.move .plain rfl rfl ?_
      refine Sq.callC fn116 .plain rfl rfl rfl (visit_c _ _ _ _ _ _ _ _ _ f s _ D G hgo hM i (L.getD k.toNat 0) _ (u ++ [(L.getD k.toNat 0)]) (nodeOf_snoc ..).symm (hrr (by omega)) (.inr ⟨u, rfl, hi.1, hum⟩) hlu (hD _ hDu _ hXm) (hDn _ (hD _ hDu _ hXm)) (by omega)) ?_
      rintro _ w51 ⟨rfl, hM'⟩
      clear hM
      have hM := hM'
      clear hM'
      replace E := SMem.base hM
      have hs53 := Below.size E
      refine Sq.partB (fun hfd => ?_) (fun hfd => ?_)
      · refine Sq.nil ?_
        refine Eq.next ?_
        refine Cq.thn rfl ?_
        refine Cq.seq ?_
        refine Cq.region ?_
        have hnew : nodeOf f s (u ++ [(L.getD k.toNat 0)]) ∉ (wmid f s L i.toNat u k.toNat).map (nodeOf f s) ∧ G (nodeOf f s (u ++ [(L.getD k.toNat 0)])) = true := by rw [nodeOf_snoc]; simpa using hfd
        rw [wadd_F hnew.1] at hM
        have M54 := hM
        obtain ⟨svM54, tvM54, rsM54, _, _, hTM54, hWM54, hSM54, _⟩ := M54
        refine Sq.loadB one116 .plain rfl rfl hTM54 rfl ?_
        refine Sq.call fn117 .plain rfl rfl (pathWord_c _ _ _ _ f s _ hWM54 hSM54 (u ++ [(L.getD k.toNat 0)]) (by rw [List.length_append, List.length_singleton, Nat.add_sub_cancel, List.getElem?_append_right (Nat.le_refl _), Nat.sub_self]; rfl) (by rw [List.length_append, List.length_singleton]; omega) (by rw [List.length_append, List.length_singleton]; omega)) ?_
        rintro _ w55 ⟨rfl, e56⟩
        have hs57 := Below.size e56
        replace E := E.trans e56
        refine Sq.assign .plain rfl rfl ?_
        refine Sq.assign .plain rfl rfl ?_
        refine Sq.nil ?_
        refine Eq.next ?_
        refine Cq.ret ?_
        refine Eq.outRet ?_
        refine Eq.pastRet ?_
        refine Eq.pastRet ?_
        refine Eq.outRet ?_
        refine Eq.outRet ?_
        refine Eq.pastRet ?_
        refine Eq.pastRet ?_
        refine Eq.outRet ?_
        refine Eq.pastRet ?_
        refine Eq.ret2 rfl rfl rfl ?_
        have e1 := first_found hu (by omega) (by omega) hG hnew.1 hnew.2
        exact ⟨by rw [e1]; rfl, E⟩
      refine Sq.nil ?_
      refine Eq.next ?_
      refine Cq.els rfl ?_
      refine Cq.skip ?_
      refine Eq.end ?_
      refine Eq.next ?_
      refine Cq.region ?_
      refine Sq.add .plain rfl rfl rfl (by omega) ?_
      refine Sq.move .plain rfl rfl ?_
      refine Sq.nil ?_
      have e2 := toNat_succ hk.1
      have e5 := wmid_succ (f := f) (s := s) (i := i.toNat) (u := u) (k := k.toNat) (L := L) (by omega)
      refine Eq.round _ _ ⟨k + 1, rfl, by omega, by rw [e2, e5]; exact hM, by rw [e2, e5]; exact wadd_miss hG (by rw [nodeOf_snoc]; exact hfd), E, rfl⟩ (by omega) (.cons rfl (.cons rfl (.cons rfl (.cons rfl (.cons rfl (.cons rfl (.cons rfl (.cons rfl (.nil)))))))))
    refine Sq.nil ?_
    refine Eq.next ?_
    refine Cq.seq ?_
    refine Cq.els rfl ?_
    refine Cq.exit ?_
    refine Eq.past ?_
    refine Eq.past ?_
    refine Eq.hit ?_
    refine Eq.end ?_
    refine Eq.next ?_
    refine Cq.region ?_
    refine Sq.move .plain rfl rfl ?_
    refine Sq.add .plain rfl rfl rfl (by omega) ?_
    refine Sq.assign .plain rfl rfl ?_
    refine Sq.nil ?_
    have e1 := toNat_succ hi.1
    have e3 := wmid_done (k := k.toNat) (by omega) hu
    have e4 := (bfsw_prefix1 (f := f) (s := s) (L := L) i.toNat).length_le
    refine Eq.round _ _ ⟨i + 1, rfl, by rw [e1]; omega, by rw [e1, ← e3]; exact hM, by rw [e1, ← e3]; exact hG, E, rfl⟩ (by omega) (.cons rfl (.cons rfl (.cons rfl (.cons rfl (.cons rfl (.nil))))))
  refine Sq.nil ?_
  refine Eq.next ?_
  refine Cq.els rfl ?_
  refine Cq.exit ?_
  refine Eq.past ?_
  refine Eq.past ?_
  refine Eq.hit ?_
  refine Eq.next ?_
  refine Cq.seq ?_
  refine Cq.region ?_
  refine Sq.assign .plain rfl rfl ?_
  refine Sq.assign .plain rfl rfl ?_
  refine Sq.nil ?_
  refine Eq.next ?_
  refine Cq.ret ?_
  refine Eq.ret2 rfl rfl rfl ?_
  have e1 := first_missed (f := f) (s := s) (L := L) (G := G) (i := i.toNat) (by omega) (by omega) hG
  exact ⟨by rw [e1]; rfl, E⟩
end Go.Proofs.Ytdejmfkpohgamaa
set_option linter.unusedSimpArgs false
set_option linter.unusedVariables false
namespace Go.Proofs.Ytdejmfkpohgamaa
open Go.RowKit
set_option maxRecDepth 100000 in
theorem ff1_c (w0 : World) (q x : Int) (a : A) (bt b : Nat) (xs : List Int) (hB : Blk w0 bt 57 [Value.slice (some ⟨b, 0, none⟩) a.next.length a.next.length]) (hT : Blk w0 b 62 (xs.map (Value.int .i64))) (hTab : Tab a xs) (hq : 0 ≤ q ∧ q < a.next.length) (hx : 0 ≤ x ∧ x < 6) : Ret Try.prog 96 #[Value.int .i64 q, Value.int .i64 x, Value.slice none 0 0, Value.pointer (some ⟨bt, 0, none⟩)] w0 (fun v w => Own w w0.heap.size 3 v [Value.int .i64 (goA a q x)] ∧ Ext w0 w) := by
  have E := Ext.refl w0
  refine Ret.of (args := [Value.int .i64 q, Value.int .i64 x, Value.slice none 0 0, Value.pointer (some ⟨bt, 0, none⟩)]) Try.func96 rfl rfl rfl ?_
  rintro _ rfl
  show Cq _ _ _ _ [(0, Value.int .i64 q), (1, Value.int .i64 x), (2, Value.slice none 0 0), (3, Value.pointer (some ⟨bt, 0, none⟩))] _
  refine Cq.seq ?_
  refine Cq.region ?_
  refine Sq.assign .plain rfl rfl ?_
  refine Sq.nil ?_
  refine Eq.next ?_
  refine Cq.seq ?_
  refine Cq.region ?_
  refine Sq.move .plain rfl rfl ?_
  refine Sq.loadB one57 .plain rfl rfl hB rfl ?_
  refine Sq.move .plain rfl rfl ?_
  refine Sq.move .plain rfl rfl ?_
  refine Sq.val .plain rfl rfl (Still.ixS slk57 rfl rfl (by omega) (by omega)) ?_
  refine Sq.val .plain rfl rfl (Still.ixA ar62 rfl rfl (by omega) (by omega)) ?_
  refine Sq.val .plain rfl rfl (Still.loadB one3 rfl hT (by rw [Nat.zero_add, List.getElem?_map, hTab.2 q x (by first | omega | assumption) (by omega)]; rfl)) ?_
  refine Sq.app1 sl56 (Own.nil w0 (w0.heap.size) 3) (by omega) (by simp) .plain rfl rfl rfl rfl rfl rfl rfl (fun v1 w2 ho4 g3 _ => ?_)
  have hs5 := g3.size
  replace E := E.owned (Own.nil w0 (w0.heap.size) 3) g3 (by omega)
  refine Sq.assign .plain rfl rfl ?_
  refine Sq.nil ?_
  refine Eq.next ?_
  refine Cq.ret ?_
  refine Eq.ret1 rfl rfl ?_
  exact ⟨by simpa using ho4, E⟩
set_option maxRecDepth 100000 in
theorem fa1_c (w0 : World) (q : Int) (a : A) (nx ac : Value) (b : Nat) (hB : Blk w0 b 26 [Value.int .i64 a.al, nx, ac]) (hac : Bools w0 4 ac a.acc) (hq : 0 ≤ q ∧ q < a.acc.length) : Ret Try.prog 64 #[Value.int .i64 q, Value.pointer (some ⟨b, 0, none⟩)] w0 (fun v w => v = .bool (accA a q) ∧ w0 = w) := by
  refine Ret.of (args := [Value.int .i64 q, Value.pointer (some ⟨b, 0, none⟩)]) Try.func64 rfl rfl rfl ?_
  rintro _ rfl
  show Cq _ _ _ _ [(0, Value.int .i64 q), (1, Value.pointer (some ⟨b, 0, none⟩))] _
  refine Cq.seq ?_
  refine Cq.region ?_
  refine Sq.assign .plain rfl rfl ?_
  refine Sq.nil ?_
  refine Eq.next ?_
  refine Cq.seq ?_
  refine Cq.region ?_
  refine Sq.fieldAddr fld26_2 .plain rfl rfl ?_
  refine Sq.loadB one24 .plain rfl rfl hB rfl ?_
  refine Sq.move .plain rfl rfl ?_
  refine Sq.idxBools sl24 one4 hac .plain rfl rfl rfl .plain rfl rfl (by omega) (by omega) ?_
  refine Sq.assign .plain rfl rfl ?_
  refine Sq.nil ?_
  refine Eq.next ?_
  refine Cq.ret ?_
  refine Eq.ret1 rfl rfl ?_
  exact ⟨rfl, rfl⟩
set_option maxRecDepth 100000 in
theorem fo1_c (w0 : World) (x y : Bool) : Ret Try.prog 78 #[Value.bool x, Value.bool y] w0 (fun v w => v = .bool (x && !y) ∧ w0 = w) := by
  refine Ret.of (args := [Value.bool x, Value.bool y]) Try.func78 rfl rfl rfl ?_
  rintro _ rfl
  show Cq _ _ _ _ [(0, Value.bool x), (1, Value.bool y)] _
  refine Cq.seq ?_
  refine Cq.region ?_
  refine Sq.assign .plain rfl rfl ?_
  refine Sq.nil ?_
  refine Eq.next ?_
  refine Cq.seq ?_
  refine Cq.region ?_
  refine Sq.move .plain rfl rfl ?_
  refine Sq.partB (fun hx => ?_) (fun hx => ?_)
  · refine Sq.move .plain rfl rfl ?_
    refine Sq.move (.met rfl rfl rfl) rfl rfl ?_
    refine Sq.not (.met rfl rfl rfl) rfl rfl ?_
    refine Sq.pickT .plain rfl rfl rfl ?_
    refine Sq.assign .plain rfl rfl ?_
    refine Sq.nil ?_
    refine Eq.next ?_
    refine Cq.ret ?_
    refine Eq.ret1 rfl rfl ?_
    exact ⟨by simp [*], rfl⟩
  refine Sq.move .plain rfl rfl ?_
  refine Sq.off rfl rfl rfl rfl rfl rfl ?_
  refine Sq.off rfl rfl rfl rfl rfl rfl ?_
  refine Sq.pickF .plain rfl rfl rfl ?_
  refine Sq.assign .plain rfl rfl ?_
  refine Sq.nil ?_
  refine Eq.next ?_
  refine Cq.ret ?_
  refine Eq.ret1 rfl rfl ?_
  exact ⟨by simp [*], rfl⟩
set_option maxRecDepth 100000 in
theorem firstFrom_c (w0 : World) (a : A) (nx ac : Value) (hnx : Rows w0 56 3 nx a.next) (hac : Bools w0 4 ac a.acc) (hv : validA a = true) (gv : Value) (G : Int → Bool) (hgo : GClo Try.prog w0 gv (fun q => 0 ≤ q ∧ q < (a.next.length : Int)) G) : Ret Try.prog 63 #[Value.agg #[Value.int .i64 a.al, nx, ac], gv] w0 (fun v w => v = resW (firstA a 0 G) ∧ Ext w0 w) := by
  have E := Ext.refl w0
  have hal := (validA_spec.1 hv).1
  refine Ret.of (args := [Value.agg #[Value.int .i64 a.al, nx, ac], gv]) Try.func63 rfl rfl rfl ?_
  rintro _ rfl
  show Cq _ _ _ _ [(0, Value.agg #[Value.int .i64 a.al, nx, ac]), (1, gv)] _
  refine Cq.seq ?_
  refine Cq.region ?_
  refine Sq.box .plain rfl rfl (fun b1 w2 e3 hB4 hlo5 => ?_)
  have hd6 := Nat.le_trans (Below.size E) hlo5
  have hs7 := Below.size e3
  replace E := E.trans e3
  refine Sq.assign .plain rfl rfl ?_
  refine Sq.assign .plain rfl rfl ?_
  refine Sq.nil ?_
  refine Eq.next ?_
  refine Cq.seq ?_
  refine Cq.region ?_
  refine Sq.loadAgg agg26 .plain rfl rfl hB4 rfl ?_
  have hd16 := hB4.lt
  refine Sq.call fn48 .plain rfl rfl (tableOf_c _ a _ _ (hnx.ext E) (hac.ext E) hv) ?_
  rintro _ w9 ⟨⟨b11, xs12, rfl, hlo13, hT14, hTab15⟩, e10⟩
  have hs17 := Below.size E
  have hs18 := Below.size e10
  replace E := E.trans e10
  replace hB4 := hB4.ext e10
  refine Sq.alloc1 zero57 rfl .plain rfl (fun b19 w20 e21 hB22 hlo23 => ?_)
  have hd24 := Nat.le_trans (Below.size E) hlo23
  have hd25 := Nat.lt_of_lt_of_le hB4.lt hlo23
  have hd26 := Nat.lt_of_lt_of_le hT14.lt hlo23
  have hs27 := Below.size e21
  replace E := E.trans e21
  replace hB4 := hB4.ext e21
  replace hT14 := hT14.ext e21
  refine Sq.store one57 .plain rfl rfl rfl hB22 (by simp) (fun w28 g29 hB30 => ?_)
  have hs31 := World.grownBy.size g29
  replace E := E.grown g29 (fun k hk => by injection hk with hk; subst hk; omega)
  replace hB4 := hB4.grown g29 (by intro h; injection h with h; omega)
  replace hT14 := hT14.grown g29 (by intro h; injection h with h; omega)
  replace hB22 := hB30
  refine Sq.nil ?_
  refine Eq.next ?_
  refine Cq.seq ?_
  refine Cq.drawS 11 (fun w' => Blk w' b1 26 [Value.int .i64 a.al, nx, ac] ∧ Blk w' b19 57 [Value.slice (some ⟨b11, 0, none⟩) a.next.length a.next.length] ∧ Blk w' b11 62 (xs12.map (Value.int .i64)) ∧ Ext w0 w') mixed (⟨hB4, hB22, hT14, E⟩) (fun w32 e33 hS => ?_)
  clear hS
  have hs34 := Below.size e33
  replace E := E.trans e33
  replace hB4 := hB4.ext e33
  replace hT14 := hT14.ext e33
  replace hB22 := hB22.ext e33
  refine Gq.st 0 rfl (by kernel_rfl) rfl .plain rfl (fun _ _ _ h => h) ⟨hB4, hB22, hT14, E⟩ (fun w' x => Still.loadB one57 rfl x.2.1 rfl) ?_
  refine Gq.st 1 rfl (by kernel_rfl) rfl .plain rfl (fun _ _ _ h => h) ⟨hB4, hB22, hT14, E⟩ (fun w' x => Still.len und57 rfl) ?_
  refine Gq.st 3 rfl (by kernel_rfl) rfl .plain rfl (fun _ _ _ h => h) ⟨hB4, hB22, hT14, E⟩ (fun w' x => Still.fieldAddr fld26_0 rfl) ?_
  refine Gq.st 4 rfl (by kernel_rfl) rfl .plain rfl (fun _ _ _ h => h) ⟨hB4, hB22, hT14, E⟩ (fun w' x => Still.loadB one3 rfl x.1 rfl) ?_
  refine Gq.st 6 rfl (by kernel_rfl) rfl .plain rfl (fun _ _ _ h => h) ⟨hB4, hB22, hT14, E⟩ (fun w' x => Still.makeFunc rfl) ?_
  refine Gq.st 7 rfl (by kernel_rfl) rfl .plain rfl (fun _ _ _ h => h) ⟨hB4, hB22, hT14, E⟩ (fun w' x => Still.move rfl) ?_
  refine Gq.two 2 5 rfl rfl (by kernel_rfl) ?_ ?_
  · refine Sq.lit sl56 rfl rfl .plain rfl rfl (one_cons rfl one_nil) (fun b35 w36 e37 hlo38 ho39 _ => ?_)
    replace ho39 := ho39 w32.heap.size (Nat.le_refl _)
    have hs41 := Below.size e37
    replace E := E.trans e37
    replace hB4 := hB4.ext e37
    replace hT14 := hT14.ext e37
    replace hB22 := hB22.ext e37
    refine Sq.nil ?_
    refine Eq.goes (fun _ => ⟨hB4, hB22, hT14, E⟩) ?_
    refine Gq.one 5 rfl (by kernel_rfl) ?_
    have hd46 := hB4.lt
    have hd47 := hT14.lt
    have hd48 := hB22.lt
    refine Sq.call fn50 .plain rfl rfl (lettersOf_c a.al (by omega) _) ?_
    rintro v42 w43 ⟨hl45, e44⟩
    have hs49 := Below.size E
    have hs50 := Below.size e44
    replace E := E.trans e44
    replace hB4 := hB4.ext e44
    replace hT14 := hT14.ext e44
    replace hB22 := hB22.ext e44
    replace ho39 := ho39.ext e44
    refine Sq.nil ?_
    refine Eq.goes (fun _ => ⟨hB4, hB22, hT14, E⟩) ?_
    refine Gq.one 8 rfl (by kernel_rfl) ?_
    have hd53 := hB4.lt
    have hd54 := hT14.lt
    have hd55 := hB22.lt
    have hvs := validA_spec.1 hv
    have hlet := letters_len6 a.al
    refine Sq.call fn95 .plain rfl rfl (firstPath_c _ (List.length a.next : Int) a.next.length 0 (letters a.al) _ _ _ _ (goA a) G (fun q => 0 ≤ q ∧ q < (a.next.length : Int)) rfl (Own.row ho39) (Own.row hl45) (by omega) (fun x hx => ⟨(mem_letters hx).1, (mem_letters hx).2.1⟩) (zero_in hv) (fun q hq x hx => goA_in hv hq ⟨(mem_letters hx).1, (mem_letters hx).2.1⟩) (fun q hq => hq) (by omega) ⟨96, _, [Value.pointer (some ⟨b19, 0, none⟩)], rfl, fn96, fun w q x hx hq hxx => ff1_c w q x a _ _ _ (hB22.ext hx) (hT14.ext hx) hTab15 hq hxx⟩ (GClo.up hgo E)) ?_
    rintro _ w51 ⟨rfl, e52⟩
    have hs56 := Below.size E
    have hs57 := Below.size e52
    replace E := E.trans e52
    replace hB4 := hB4.ext e52
    replace hT14 := hT14.ext e52
    replace hB22 := hB22.ext e52
    refine Sq.nil ?_
    refine Eq.goes (fun _ => ⟨hB4, hB22, hT14, E⟩) ?_
    refine Gq.st 9 rfl (by kernel_rfl) rfl .plain rfl (fun _ _ _ h => h) ⟨hB4, hB22, hT14, E⟩ (fun w' x => Still.extract rfl rfl) ?_
    refine Gq.st 10 rfl (by kernel_rfl) rfl .plain rfl (fun _ _ _ h => h) ⟨hB4, hB22, hT14, E⟩ (fun w' x => Still.extract rfl rfl) ?_
    refine Gq.one 11 rfl (by kernel_rfl) ?_
    refine Sq.assign .plain rfl rfl ?_
    refine Sq.nil ?_
    refine Eq.goes (fun h => absurd h (by decide)) ?_
    refine Gq.one 12 rfl (by kernel_rfl) ?_
    refine Sq.assign .plain rfl rfl ?_
    refine Sq.nil ?_
    refine Eq.goes (fun h => absurd h (by decide)) ?_
    refine Gq.done (by kernel_rfl) ?_
    refine Eq.next ?_
    refine Cq.ret ?_
    refine Eq.ret2 rfl rfl rfl ?_
    exact ⟨rfl, E⟩
  have hd62 := hB4.lt
  have hd63 := hT14.lt
  have hd64 := hB22.lt
  refine Sq.call fn50 .plain rfl rfl (lettersOf_c a.al (by omega) _) ?_
  rintro v58 w59 ⟨hl61, e60⟩
  have hs65 := Below.size E
  have hs66 := Below.size e60
  replace E := E.trans e60
  replace hB4 := hB4.ext e60
  replace hT14 := hT14.ext e60
  replace hB22 := hB22.ext e60
  refine Sq.nil ?_
  refine Eq.goes (fun _ => ⟨hB4, hB22, hT14, E⟩) ?_
  refine Gq.one 2 rfl (by kernel_rfl) ?_
  refine Sq.lit sl56 rfl rfl .plain rfl rfl (one_cons rfl one_nil) (fun b67 w68 e69 hlo70 ho71 _ => ?_)
  replace ho71 := ho71 w59.heap.size (Nat.le_refl _)
  have hs73 := Below.size e69
  replace E := E.trans e69
  replace hB4 := hB4.ext e69
  replace hT14 := hT14.ext e69
  replace hB22 := hB22.ext e69
  replace hl61 := hl61.ext e69
  refine Sq.nil ?_
  refine Eq.goes (fun _ => ⟨hB4, hB22, hT14, E⟩) ?_
  refine Gq.one 8 rfl (by kernel_rfl) ?_
  have hd76 := hB4.lt
  have hd77 := hT14.lt
  have hd78 := hB22.lt
  have hvs := validA_spec.1 hv
  have hlet := letters_len6 a.al
  refine Sq.call fn95 .plain rfl rfl (firstPath_c _ (List.length a.next : Int) a.next.length 0 (letters a.al) _ _ _ _ (goA a) G (fun q => 0 ≤ q ∧ q < (a.next.length : Int)) rfl (Own.row ho71) (Own.row hl61) (by omega) (fun x hx => ⟨(mem_letters hx).1, (mem_letters hx).2.1⟩) (zero_in hv) (fun q hq x hx => goA_in hv hq ⟨(mem_letters hx).1, (mem_letters hx).2.1⟩) (fun q hq => hq) (by omega) ⟨96, _, [Value.pointer (some ⟨b19, 0, none⟩)], rfl, fn96, fun w q x hx hq hxx => ff1_c w q x a _ _ _ (hB22.ext hx) (hT14.ext hx) hTab15 hq hxx⟩ (GClo.up hgo E)) ?_
  rintro _ w74 ⟨rfl, e75⟩
  have hs79 := Below.size E
  have hs80 := Below.size e75
  replace E := E.trans e75
  replace hB4 := hB4.ext e75
  replace hT14 := hT14.ext e75
  replace hB22 := hB22.ext e75
  refine Sq.nil ?_
  refine Eq.goes (fun _ => ⟨hB4, hB22, hT14, E⟩) ?_
  refine Gq.st 9 rfl (by kernel_rfl) rfl .plain rfl (fun _ _ _ h => h) ⟨hB4, hB22, hT14, E⟩ (fun w' x => Still.extract rfl rfl) ?_
  refine Gq.st 10 rfl (by kernel_rfl) rfl .plain rfl (fun _ _ _ h => h) ⟨hB4, hB22, hT14, E⟩ (fun w' x => Still.extract rfl rfl) ?_
  refine Gq.one 11 rfl (by kernel_rfl) ?_
  refine Sq.assign .plain rfl rfl ?_
  refine Sq.nil ?_
  refine Eq.goes (fun h => absurd h (by decide)) ?_
  refine Gq.one 12 rfl (by kernel_rfl) ?_
  refine Sq.assign .plain rfl rfl ?_
  refine Sq.nil ?_
  refine Eq.goes (fun h => absurd h (by decide)) ?_
  refine Gq.done (by kernel_rfl) ?_
  refine Eq.next ?_
  refine Cq.ret ?_
  refine Eq.ret2 rfl rfl rfl ?_
  exact ⟨rfl, E⟩
end Go.Proofs.Ytdejmfkpohgamaa
set_option linter.unusedSimpArgs false
set_option linter.unusedVariables false
namespace Go.Proofs.Ytdejmfkpohgamaa
open Go.RowKit
set_option maxRecDepth 100000 in
theorem fb1_c (w0 : World) (q y0 : Int) (a b : A) (bs bn bt b1 b2 : Nat) (xs ys : List Int) (hS : Blk w0 bs 57 [Value.slice (some ⟨b1, 0, none⟩) a.next.length a.next.length]) (hN : Blk w0 bn 3 [Value.int .i64 (List.length b.next : Int)]) (hT : Blk w0 bt 57 [Value.slice (some ⟨b2, 0, none⟩) b.next.length b.next.length]) (h1 : Blk w0 b1 62 (xs.map (Value.int .i64))) (h2 : Blk w0 b2 62 (ys.map (Value.int .i64))) (hTab : Tab a xs) (hTab' : Tab b ys) (hv : validA a = true) (hv' : validA b = true) (hq : InP a b q) (hx : 0 ≤ y0 ∧ y0 < 6) : Ret Try.prog 102 #[Value.int .i64 q, Value.int .i64 y0, Value.slice none 0 0, Value.pointer (some ⟨bs, 0, none⟩), Value.pointer (some ⟨bn, 0, none⟩), Value.pointer (some ⟨bt, 0, none⟩)] w0 (fun v w => Own w w0.heap.size 3 v [Value.int .i64 (fP a b q y0)] ∧ Ext w0 w) := by
  have E := Ext.refl w0
  have hz := zero_in hv'
  have hz2 := (validA_spec.1 hv').2.1
  have hdv : (0 ≤ q / (List.length b.next : Int) ∧ q / (List.length b.next : Int) < (a.next.length : Int)) ∧ 0 ≤ q % (List.length b.next : Int) ∧ q % (List.length b.next : Int) < (List.length b.next : Int) := inP_div hv' hq
  have hmu := fP_mul hv hv' hq hx
  have hg2 : 0 ≤ goA b (q % (List.length b.next : Int)) y0 ∧ goA b (q % (List.length b.next : Int)) y0 < b.next.length := goA_in hv' hdv.2 hx
  have hqb : 0 ≤ q ∧ q ≤ 144 := ⟨hq.1, by have h8 := hq.2; have h9 := le144 hv hv'; omega⟩
  refine Ret.of (args := [Value.int .i64 q, Value.int .i64 y0, Value.slice none 0 0, Value.pointer (some ⟨bs, 0, none⟩), Value.pointer (some ⟨bn, 0, none⟩), Value.pointer (some ⟨bt, 0, none⟩)]) Try.func102 rfl rfl rfl ?_
  rintro _ rfl
  show Cq _ _ _ _ [(0, Value.int .i64 q), (1, Value.int .i64 y0), (2, Value.slice none 0 0), (3, Value.pointer (some ⟨bs, 0, none⟩)), (4, Value.pointer (some ⟨bn, 0, none⟩)), (5, Value.pointer (some ⟨bt, 0, none⟩))] _
  refine Cq.seq ?_
  refine Cq.region ?_
  refine Sq.assign .plain rfl rfl ?_
  refine Sq.nil ?_
  refine Eq.next ?_
  refine Cq.seq ?_
  refine Cq.drawS 22 (fun w' => Blk w' bs 57 [Value.slice (some ⟨b1, 0, none⟩) a.next.length a.next.length] ∧ Blk w' bn 3 [Value.int .i64 (List.length b.next : Int)] ∧ Blk w' bt 57 [Value.slice (some ⟨b2, 0, none⟩) b.next.length b.next.length] ∧ Blk w' b1 62 (xs.map (Value.int .i64)) ∧ Blk w' b2 62 (ys.map (Value.int .i64)) ∧ Ext w0 w') mixed (⟨hS, hN, hT, h1, h2, E⟩) (fun w1 e2 hS => ?_)
  clear hS
  have hs3 := Below.size e2
  replace E := E.trans e2
  replace hS := hS.ext e2
  replace hN := hN.ext e2
  replace hT := hT.ext e2
  replace h1 := h1.ext e2
  replace h2 := h2.ext e2
  refine Gq.st 0 rfl (by kernel_rfl) rfl .plain rfl (fun _ _ _ h => h) ⟨hS, hN, hT, h1, h2, E⟩ (fun w' x => Still.move rfl) ?_
  refine Gq.st 1 rfl (by kernel_rfl) rfl .plain rfl (fun _ _ _ h => h) ⟨hS, hN, hT, h1, h2, E⟩ (fun w' x => Still.loadB one57 rfl x.1 rfl) ?_
  refine Gq.st 2 rfl (by kernel_rfl) rfl .plain rfl (fun _ _ _ h => h) ⟨hS, hN, hT, h1, h2, E⟩ (fun w' x => Still.move rfl) ?_
  refine Gq.st 3 rfl (by kernel_rfl) rfl .plain rfl (fun _ _ _ h => h) ⟨hS, hN, hT, h1, h2, E⟩ (fun w' x => Still.loadB one3 rfl x.2.1 rfl) ?_
  refine Gq.st 4 rfl (by kernel_rfl) rfl .plain rfl (fun _ _ _ h => h) ⟨hS, hN, hT, h1, h2, E⟩ (fun w' x => Still.quo rfl rfl (by omega)) ?_
  refine Gq.st 5 rfl (by kernel_rfl) rfl .plain rfl (fun _ _ _ h => h) ⟨hS, hN, hT, h1, h2, E⟩ (fun w' x => Still.move rfl) ?_
  refine Gq.st 6 rfl (by kernel_rfl) rfl .plain rfl (fun _ _ _ h => h) ⟨hS, hN, hT, h1, h2, E⟩ (fun w' x => Still.ixS slk57 rfl rfl (by omega) (by omega)) ?_
  refine Gq.st 7 rfl (by kernel_rfl) rfl .plain rfl (fun _ _ _ h => h) ⟨hS, hN, hT, h1, h2, E⟩ (fun w' x => Still.ixA ar62 rfl rfl (by omega) (by omega)) ?_
  refine Gq.st 8 rfl (by kernel_rfl) rfl .plain rfl (fun _ _ _ h => h) ⟨hS, hN, hT, h1, h2, E⟩ (fun w' x => Still.loadB one3 rfl x.2.2.2.1 (by rw [Nat.zero_add, List.getElem?_map, hTab.2 (q / (List.length b.next : Int)) y0 (by first | omega | assumption) (by omega)]; rfl)) ?_
  refine Gq.st 9 rfl (by kernel_rfl) rfl .plain rfl (fun _ _ _ h => h) ⟨hS, hN, hT, h1, h2, E⟩ (fun w' x => Still.loadB one3 rfl x.2.1 rfl) ?_
  refine Gq.st 10 rfl (by kernel_rfl) rfl .plain rfl (fun _ _ _ h => h) ⟨hS, hN, hT, h1, h2, E⟩ (fun w' x => Still.mul rfl rfl (by omega)) ?_
  refine Gq.st 11 rfl (by kernel_rfl) rfl .plain rfl (fun _ _ _ h => h) ⟨hS, hN, hT, h1, h2, E⟩ (fun w' x => Still.loadB one57 rfl x.2.2.1 rfl) ?_
  refine Gq.st 12 rfl (by kernel_rfl) rfl .plain rfl (fun _ _ _ h => h) ⟨hS, hN, hT, h1, h2, E⟩ (fun w' x => Still.move rfl) ?_
  refine Gq.st 13 rfl (by kernel_rfl) rfl .plain rfl (fun _ _ _ h => h) ⟨hS, hN, hT, h1, h2, E⟩ (fun w' x => Still.loadB one3 rfl x.2.1 rfl) ?_
  refine Gq.st 14 rfl (by kernel_rfl) rfl .plain rfl (fun _ _ _ h => h) ⟨hS, hN, hT, h1, h2, E⟩ (fun w' x => Still.rem rfl rfl (by omega)) ?_
  refine Gq.st 15 rfl (by kernel_rfl) rfl .plain rfl (fun _ _ _ h => h) ⟨hS, hN, hT, h1, h2, E⟩ (fun w' x => Still.move rfl) ?_
  refine Gq.st 16 rfl (by kernel_rfl) rfl .plain rfl (fun _ _ _ h => h) ⟨hS, hN, hT, h1, h2, E⟩ (fun w' x => Still.ixS slk57 rfl rfl (by omega) (by omega)) ?_
  refine Gq.st 17 rfl (by kernel_rfl) rfl .plain rfl (fun _ _ _ h => h) ⟨hS, hN, hT, h1, h2, E⟩ (fun w' x => Still.ixA ar62 rfl rfl (by omega) (by omega)) ?_
  refine Gq.st 18 rfl (by kernel_rfl) rfl .plain rfl (fun _ _ _ h => h) ⟨hS, hN, hT, h1, h2, E⟩ (fun w' x => Still.loadB one3 rfl x.2.2.2.2.1 (by rw [Nat.zero_add, List.getElem?_map, hTab'.2 (q % (List.length b.next : Int)) y0 (by first | omega | assumption) (by omega)]; rfl)) ?_
  refine Gq.st 19 rfl (by kernel_rfl) rfl .plain rfl (fun _ _ _ h => h) ⟨hS, hN, hT, h1, h2, E⟩ (fun w' x => Still.add rfl rfl (by omega)) ?_
  refine Gq.one 20 rfl (by kernel_rfl) ?_
  refine Sq.lit sl56 rfl rfl .plain rfl rfl (one_cons rfl one_nil) (fun b4 w5 e6 hlo7 ho8 _ => ?_)
  replace ho8 := ho8 w1.heap.size (Nat.le_refl _)
  have hs10 := Below.size e6
  replace E := E.trans e6
  replace hS := hS.ext e6
  replace hN := hN.ext e6
  replace hT := hT.ext e6
  replace h1 := h1.ext e6
  replace h2 := h2.ext e6
  refine Sq.nil ?_
  refine Eq.goes (fun _ => ⟨hS, hN, hT, h1, h2, E⟩) ?_
  refine Gq.one 21 rfl (by kernel_rfl) ?_
  refine Sq.app sl56 (Own.nil w5 (w0.heap.size) 3) (by omega) (Own.row ho8) (one_cons rfl one_nil) (by simp) .plain rfl rfl rfl rfl (fun v11 w12 ho14 g13 => ?_)
  have hs15 := g13.size
  have e16 := Ext.of_grown g13
  have hs17 := Below.size e16
  replace E := E.trans e16
  replace hS := hS.ext e16
  replace hN := hN.ext e16
  replace hT := hT.ext e16
  replace h1 := h1.ext e16
  replace h2 := h2.ext e16
  refine Sq.nil ?_
  refine Eq.goes (fun _ => ⟨hS, hN, hT, h1, h2, E⟩) ?_
  refine Gq.one 22 rfl (by kernel_rfl) ?_
  refine Sq.assign .plain rfl rfl ?_
  refine Sq.nil ?_
  refine Eq.goes (fun h => absurd h (by decide)) ?_
  refine Gq.done (by kernel_rfl) ?_
  refine Eq.next ?_
  refine Cq.ret ?_
  refine Eq.ret1 rfl rfl ?_
  exact ⟨by simpa [fP] using ho14, E⟩
set_option maxRecDepth 100000 in
theorem fb2_c (w0 : World) (q : Int) (a b : A) (nx ac nx' ac' gv : Value) (g : Bool → Bool → Bool) (bg ba bn bb : Nat) (hG : Blk w0 bg 85 [gv]) (hA : Blk w0 ba 26 [Value.int .i64 a.al, nx, ac]) (hN : Blk w0 bn 3 [Value.int .i64 (List.length b.next : Int)]) (hB : Blk w0 bb 26 [Value.int .i64 b.al, nx', ac']) (hac : Bools w0 4 ac a.acc) (hac' : Bools w0 4 ac' b.acc) (hgo : BClo Try.prog w0 gv g) (hv : validA a = true) (hv' : validA b = true) (hq : InP a b q) : Ret Try.prog 103 #[Value.int .i64 q, Value.pointer (some ⟨bg, 0, none⟩), Value.pointer (some ⟨ba, 0, none⟩), Value.pointer (some ⟨bn, 0, none⟩), Value.pointer (some ⟨bb, 0, none⟩)] w0 (fun v w => v = .bool (g (accA a (q / (List.length b.next : Int))) (accA b (q % (List.length b.next : Int)))) ∧ Ext w0 w) := by
  have E := Ext.refl w0
  obtain ⟨kg, fg, cg, hgv, hFg, hgoal⟩ := hgo
  have hz := zero_in hv'
  have hz1 := (validA_spec.1 hv).2
  have hz2 := (validA_spec.1 hv').2
  have hdv : (0 ≤ q / (List.length b.next : Int) ∧ q / (List.length b.next : Int) < (a.next.length : Int)) ∧ 0 ≤ q % (List.length b.next : Int) ∧ q % (List.length b.next : Int) < (List.length b.next : Int) := inP_div hv' hq
  have hqb : 0 ≤ q ∧ q ≤ 144 := ⟨hq.1, by have h8 := hq.2; have h9 := le144 hv hv'; omega⟩
  refine Ret.of (args := [Value.int .i64 q, Value.pointer (some ⟨bg, 0, none⟩), Value.pointer (some ⟨ba, 0, none⟩), Value.pointer (some ⟨bn, 0, none⟩), Value.pointer (some ⟨bb, 0, none⟩)]) Try.func103 rfl rfl rfl ?_
  rintro _ rfl
  show Cq _ _ _ _ [(0, Value.int .i64 q), (1, Value.pointer (some ⟨bg, 0, none⟩)), (2, Value.pointer (some ⟨ba, 0, none⟩)), (3, Value.pointer (some ⟨bn, 0, none⟩)), (4, Value.pointer (some ⟨bb, 0, none⟩))] _
  refine Cq.seq ?_
  refine Cq.region ?_
  refine Sq.assign .plain rfl rfl ?_
  refine Sq.nil ?_
  refine Eq.next ?_
  refine Cq.seq ?_
  obtain ⟨phpA, hpA⟩ := Bools.at hac (i := q / (List.length b.next : Int)) (by omega) (by omega)
  obtain ⟨phpB, hpB⟩ := Bools.at hac' (i := q % (List.length b.next : Int)) (by omega) (by omega)
  refine Cq.drawS 16 (fun w' => Blk w' bg 85 [gv] ∧ Blk w' ba 26 [Value.int .i64 a.al, nx, ac] ∧ Blk w' bn 3 [Value.int .i64 (List.length b.next : Int)] ∧ Blk w' bb 26 [Value.int .i64 b.al, nx', ac'] ∧ At w' 4 ac (q / (List.length b.next : Int)) phpA (.bool (a.acc.getD (q / (List.length b.next : Int)).toNat false)) ∧ At w' 4 ac' (q % (List.length b.next : Int)) phpB (.bool (b.acc.getD (q % (List.length b.next : Int)).toNat false)) ∧ Ext w0 w') mixed (⟨hG, hA, hN, hB, hpA, hpB, E⟩) (fun w1 e2 hS => ?_)
  clear hS
  have hs3 := Below.size e2
  replace E := E.trans e2
  replace hG := hG.ext e2
  replace hA := hA.ext e2
  replace hN := hN.ext e2
  replace hB := hB.ext e2
  replace hpA := hpA.ext e2
  replace hpB := hpB.ext e2
  refine Gq.st 0 rfl (by kernel_rfl) rfl .plain rfl (fun _ _ _ h => h) ⟨hG, hA, hN, hB, hpA, hpB, E⟩ (fun w' x => Still.loadB one85 rfl x.1 rfl) ?_
  refine Gq.st 1 rfl (by kernel_rfl) rfl .plain rfl (fun _ _ _ h => h) ⟨hG, hA, hN, hB, hpA, hpB, E⟩ (fun w' x => Still.fieldAddr fld26_2 rfl) ?_
  refine Gq.st 2 rfl (by kernel_rfl) rfl .plain rfl (fun _ _ _ h => h) ⟨hG, hA, hN, hB, hpA, hpB, E⟩ (fun w' x => Still.loadB one24 rfl x.2.1 rfl) ?_
  refine Gq.st 3 rfl (by kernel_rfl) rfl .plain rfl (fun _ _ _ h => h) ⟨hG, hA, hN, hB, hpA, hpB, E⟩ (fun w' x => Still.move rfl) ?_
  refine Gq.st 4 rfl (by kernel_rfl) rfl .plain rfl (fun _ _ _ h => h) ⟨hG, hA, hN, hB, hpA, hpB, E⟩ (fun w' x => Still.loadB one3 rfl x.2.2.1 rfl) ?_
  refine Gq.st 5 rfl (by kernel_rfl) rfl .plain rfl (fun _ _ _ h => h) ⟨hG, hA, hN, hB, hpA, hpB, E⟩ (fun w' x => Still.quo rfl rfl (by omega)) ?_
  refine Gq.st 6 rfl (by kernel_rfl) rfl .plain rfl (fun _ _ _ h => h) ⟨hG, hA, hN, hB, hpA, hpB, E⟩ (fun w' x => Still.at' sl24 hpA rfl rfl) ?_
  refine Gq.st 7 rfl (by kernel_rfl) rfl .plain rfl (fun _ _ _ h => h) ⟨hG, hA, hN, hB, hpA, hpB, E⟩ (fun w' x => Still.loadA one4 rfl (x.2.2.2.2.1).1) ?_
  refine Gq.st 8 rfl (by kernel_rfl) rfl .plain rfl (fun _ _ _ h => h) ⟨hG, hA, hN, hB, hpA, hpB, E⟩ (fun w' x => Still.fieldAddr fld26_2 rfl) ?_
  refine Gq.st 9 rfl (by kernel_rfl) rfl .plain rfl (fun _ _ _ h => h) ⟨hG, hA, hN, hB, hpA, hpB, E⟩ (fun w' x => Still.loadB one24 rfl x.2.2.2.1 rfl) ?_
  refine Gq.st 10 rfl (by kernel_rfl) rfl .plain rfl (fun _ _ _ h => h) ⟨hG, hA, hN, hB, hpA, hpB, E⟩ (fun w' x => Still.move rfl) ?_
  refine Gq.st 11 rfl (by kernel_rfl) rfl .plain rfl (fun _ _ _ h => h) ⟨hG, hA, hN, hB, hpA, hpB, E⟩ (fun w' x => Still.loadB one3 rfl x.2.2.1 rfl) ?_
  refine Gq.st 12 rfl (by kernel_rfl) rfl .plain rfl (fun _ _ _ h => h) ⟨hG, hA, hN, hB, hpA, hpB, E⟩ (fun w' x => Still.rem rfl rfl (by omega)) ?_
  refine Gq.st 13 rfl (by kernel_rfl) rfl .plain rfl (fun _ _ _ h => h) ⟨hG, hA, hN, hB, hpA, hpB, E⟩ (fun w' x => Still.at' sl24 hpB rfl rfl) ?_
  refine Gq.st 14 rfl (by kernel_rfl) rfl .plain rfl (fun _ _ _ h => h) ⟨hG, hA, hN, hB, hpA, hpB, E⟩ (fun w' x => Still.loadA one4 rfl (x.2.2.2.2.2.1).1) ?_
  refine Gq.one 15 rfl (by kernel_rfl) ?_
  refine Sq.callC hFg .plain rfl (by rw [← hgv]; rfl) rfl (hgoal _ _ _ E) ?_
  rintro _ w4 ⟨rfl, e5⟩
  have hs6 := Below.size e5
  replace E := E.trans e5
  replace hG := hG.ext e5
  replace hA := hA.ext e5
  replace hN := hN.ext e5
  replace hB := hB.ext e5
  replace hpA := hpA.ext e5
  replace hpB := hpB.ext e5
  refine Sq.nil ?_
  refine Eq.goes (fun _ => ⟨hG, hA, hN, hB, hpA, hpB, E⟩) ?_
  refine Gq.one 16 rfl (by kernel_rfl) ?_
  refine Sq.assign .plain rfl rfl ?_
  refine Sq.nil ?_
  refine Eq.goes (fun h => absurd h (by decide)) ?_
  refine Gq.done (by kernel_rfl) ?_
  refine Eq.next ?_
  refine Cq.ret ?_
  refine Eq.ret1 rfl rfl ?_
  exact ⟨rfl, E⟩
set_option maxHeartbeats 1000000 in
set_option maxRecDepth 100000 in
theorem firstOfBoth_c (w0 : World) (a b : A) (nx ac nx' ac' : Value) (hnx : Rows w0 56 3 nx a.next) (hac : Bools w0 4 ac a.acc) (hnx' : Rows w0 56 3 nx' b.next) (hac' : Bools w0 4 ac' b.acc) (gv : Value) (g : Bool → Bool → Bool) (hgo : BClo Try.prog w0 gv g) (i0 j0 : Int) (hv : validA a = true) (hv' : validA b = true) (hp : In2 a b (i0, j0)) : Ret Try.prog 77 #[Value.agg #[Value.int .i64 a.al, nx, ac], Value.agg #[Value.int .i64 b.al, nx', ac'], Value.int .i64 i0, Value.int .i64 j0, gv] w0 (fun v w => v = resW (firstAB a b (i0, j0) g) ∧ Ext w0 w) := by
  have E := Ext.refl w0
  have hal := (validA_spec.1 hv).1
  have h144 := le144 hv hv'
  have hz1 := (validA_spec.1 hv).2
  have hz2 := (validA_spec.1 hv').2
  have hp1 := hp.1
  have hp2 := hp.2
  simp only at hp1 hp2
  have hee := inP_enc (p := (i0, j0)) hp
  unfold InP enc2 at hee
  simp only at hee
  have hm1 := mul144 hv hv'
  have hm2 := (Int.mul_nonneg (a := i0) (b := (List.length b.next : Int)) (by omega) (by omega))
  refine Ret.of (args := [Value.agg #[Value.int .i64 a.al, nx, ac], Value.agg #[Value.int .i64 b.al, nx', ac'], Value.int .i64 i0, Value.int .i64 j0, gv]) Try.func77 rfl rfl rfl ?_
  rintro _ rfl
  show Cq _ _ _ _ [(0, Value.agg #[Value.int .i64 a.al, nx, ac]), (1, Value.agg #[Value.int .i64 b.al, nx', ac']), (2, Value.int .i64 i0), (3, Value.int .i64 j0), (4, gv)] _
  refine Cq.seq ?_
  refine Cq.region ?_
  refine Sq.box .plain rfl rfl (fun b1 w2 e3 hB4 hlo5 => ?_)
  have hd6 := Nat.le_trans (Below.size E) hlo5
  have hs7 := Below.size e3
  replace E := E.trans e3
  refine Sq.box .plain rfl rfl (fun b8 w9 e10 hB11 hlo12 => ?_)
  have hd13 := Nat.le_trans (Below.size E) hlo12
  have hd14 := Nat.lt_of_lt_of_le hB4.lt hlo12
  have hs15 := Below.size e10
  replace E := E.trans e10
  replace hB4 := hB4.ext e10
  refine Sq.box1 .plain rfl rfl (BClo.one hgo) (fun b16 w17 e18 hB19 hlo20 => ?_)
  have hd21 := Nat.le_trans (Below.size E) hlo20
  have hd22 := Nat.lt_of_lt_of_le hB4.lt hlo20
  have hd23 := Nat.lt_of_lt_of_le hB11.lt hlo20
  have hs24 := Below.size e18
  replace E := E.trans e18
  replace hB4 := hB4.ext e18
  replace hB11 := hB11.ext e18
  refine Sq.assign .plain rfl rfl ?_
  refine Sq.assign .plain rfl rfl ?_
  refine Sq.nil ?_
  refine Eq.next ?_
  refine Cq.seq ?_
  refine Cq.cut (fun ls w => ∃ (c8 : Nat), ∃ (c9 : Nat), ∃ (t1 : Nat), ∃ (t2 : Nat), ∃ (xs : List Int), ∃ (ys0 : List Int), ls = [(2, Value.int .i64 i0), (3, Value.int .i64 j0), (5, Value.pointer (some ⟨b1, 0, none⟩)), (6, Value.pointer (some ⟨b8, 0, none⟩)), (9, Value.pointer (some ⟨b16, 0, none⟩)), (12, Value.pointer (some ⟨c8, 0, none⟩)), (13, Value.pointer (some ⟨c9, 0, none⟩))] ∧ Blk w c8 57 [Value.slice (some ⟨t1, 0, none⟩) a.next.length a.next.length] ∧ Blk w c9 57 [Value.slice (some ⟨t2, 0, none⟩) b.next.length b.next.length] ∧ Blk w t1 62 (xs.map (Value.int .i64)) ∧ Blk w t2 62 (ys0.map (Value.int .i64)) ∧ Tab a xs ∧ Tab b ys0 ∧ (b1 < c8 ∧ b1 < c9 ∧ b1 < t1 ∧ b1 < t2 ∧ b8 < c8 ∧ b8 < c9 ∧ b8 < t1 ∧ b8 < t2 ∧ b16 < c8 ∧ b16 < c9 ∧ b16 < t1 ∧ b16 < t2) ∧ Ext w0 w ∧ Blk w b1 26 [Value.int .i64 a.al, nx, ac] ∧ Blk w b8 26 [Value.int .i64 b.al, nx', ac'] ∧ Blk w b16 85 [gv]) ?_ ?_
  · refine Cq.drawS 7 (fun w' => Blk w' b1 26 [Value.int .i64 a.al, nx, ac] ∧ Blk w' b8 26 [Value.int .i64 b.al, nx', ac']) mixed (⟨hB4, hB11⟩) (fun w25 e26 hS => ?_)
    clear hS
    have hs27 := Below.size e26
    replace E := E.trans e26
    replace hB4 := hB4.ext e26
    replace hB11 := hB11.ext e26
    replace hB19 := hB19.ext e26
    refine Gq.st 0 rfl (by kernel_rfl) rfl .plain rfl (fun _ _ _ h => h) ⟨hB4, hB11⟩ (fun w' x => Still.loadAgg agg26 rfl x.1 rfl) ?_
    refine Gq.st 2 rfl (by kernel_rfl) rfl .plain rfl (fun _ _ _ h => h) ⟨hB4, hB11⟩ (fun w' x => Still.loadAgg agg26 rfl x.2 rfl) ?_
    refine Gq.three 1 4 5 rfl rfl rfl (by kernel_rfl) ?_ ?_ ?_
    · have hd36 := hB4.lt
      have hd37 := hB11.lt
      have hd38 := hB19.lt
      refine Sq.call fn48 .plain rfl rfl (tableOf_c _ a _ _ (hnx.ext E) (hac.ext E) hv) ?_
      rintro _ w29 ⟨⟨b31, xs32, rfl, hlo33, hT34, hTab35⟩, e30⟩
      have hs39 := Below.size E
      have hs40 := Below.size e30
      replace E := E.trans e30
      replace hB4 := hB4.ext e30
      replace hB11 := hB11.ext e30
      replace hB19 := hB19.ext e30
      refine Sq.nil ?_
      refine Eq.goes (fun _ => ⟨hB4, hB11⟩) ?_
      refine Gq.three 3 4 5 rfl rfl rfl (by kernel_rfl) ?_ ?_ ?_
      · have hd49 := hB4.lt
        have hd50 := hB11.lt
        have hd51 := hB19.lt
        have hd52 := hT34.lt
        refine Sq.call fn48 .plain rfl rfl (tableOf_c _ b _ _ (hnx'.ext E) (hac'.ext E) hv') ?_
        rintro _ w42 ⟨⟨b44, xs45, rfl, hlo46, hT47, hTab48⟩, e43⟩
        have hs53 := Below.size E
        have hs54 := Below.size e43
        replace E := E.trans e43
        replace hB4 := hB4.ext e43
        replace hB11 := hB11.ext e43
        replace hB19 := hB19.ext e43
        replace hT34 := hT34.ext e43
        refine Sq.nil ?_
        refine Eq.goes (fun _ => ⟨hB4, hB11⟩) ?_
        refine Gq.two 4 5 rfl rfl (by kernel_rfl) ?_ ?_
        · refine Sq.alloc1 zero57 rfl .plain rfl (fun b55 w56 e57 hB58 hlo59 => ?_)
          have hd60 := Nat.le_trans (Below.size E) hlo59
          have hd61 := Nat.lt_of_lt_of_le hB4.lt hlo59
          have hd62 := Nat.lt_of_lt_of_le hB11.lt hlo59
          have hd63 := Nat.lt_of_lt_of_le hB19.lt hlo59
          have hd64 := Nat.lt_of_lt_of_le hT34.lt hlo59
          have hd65 := Nat.lt_of_lt_of_le hT47.lt hlo59
          have hs66 := Below.size e57
          replace E := E.trans e57
          replace hB4 := hB4.ext e57
          replace hB11 := hB11.ext e57
          replace hB19 := hB19.ext e57
          replace hT34 := hT34.ext e57
          replace hT47 := hT47.ext e57
          refine Sq.nil ?_
          refine Eq.goes (fun _ => ⟨hB4, hB11⟩) ?_
          refine Gq.one 5 rfl (by kernel_rfl) ?_
          refine Sq.alloc1 zero57 rfl .plain rfl (fun b67 w68 e69 hB70 hlo71 => ?_)
          have hd72 := Nat.le_trans (Below.size E) hlo71
          have hd73 := Nat.lt_of_lt_of_le hB4.lt hlo71
          have hd74 := Nat.lt_of_lt_of_le hB11.lt hlo71
          have hd75 := Nat.lt_of_lt_of_le hB19.lt hlo71
          have hd76 := Nat.lt_of_lt_of_le hT34.lt hlo71
          have hd77 := Nat.lt_of_lt_of_le hT47.lt hlo71
          have hd78 := Nat.lt_of_lt_of_le hB58.lt hlo71
          have hs79 := Below.size e69
          replace E := E.trans e69
          replace hB4 := hB4.ext e69
          replace hB11 := hB11.ext e69
          replace hB19 := hB19.ext e69
          replace hT34 := hT34.ext e69
          replace hT47 := hT47.ext e69
          replace hB58 := hB58.ext e69
          refine Sq.nil ?_
          refine Eq.goes (fun _ => ⟨hB4, hB11⟩) ?_
          refine Gq.one 6 rfl (by kernel_rfl) ?_
          refine Sq.store one57 .plain rfl rfl rfl hB58 (by simp) (fun w80 g81 hB82 => ?_)
          have hs83 := World.grownBy.size g81
          replace E := E.grown g81 (fun k hk => by injection hk with hk; subst hk; omega)
          replace hB4 := hB4.grown g81 (by intro h; injection h with h; omega)
          replace hB11 := hB11.grown g81 (by intro h; injection h with h; omega)
          replace hB19 := hB19.grown g81 (by intro h; injection h with h; omega)
          replace hT34 := hT34.grown g81 (by intro h; injection h with h; omega)
          replace hT47 := hT47.grown g81 (by intro h; injection h with h; omega)
          replace hB70 := hB70.grown g81 (by intro h; injection h with h; omega)
          replace hB58 := hB82
          refine Sq.nil ?_
          refine Eq.goes (fun _ => ⟨hB4, hB11⟩) ?_
          refine Gq.one 7 rfl (by kernel_rfl) ?_
          refine Sq.store one57 .plain rfl rfl rfl hB70 (by simp) (fun w84 g85 hB86 => ?_)
          have hs87 := World.grownBy.size g85
          replace E := E.grown g85 (fun k hk => by injection hk with hk; subst hk; omega)
          replace hB4 := hB4.grown g85 (by intro h; injection h with h; omega)
          replace hB11 := hB11.grown g85 (by intro h; injection h with h; omega)
          replace hB19 := hB19.grown g85 (by intro h; injection h with h; omega)
          replace hT34 := hT34.grown g85 (by intro h; injection h with h; omega)
          replace hT47 := hT47.grown g85 (by intro h; injection h with h; omega)
          replace hB58 := hB58.grown g85 (by intro h; injection h with h; omega)
          replace hB70 := hB86
          refine Sq.nil ?_
          refine Eq.goes (fun h => absurd h (by decide)) ?_
          refine Gq.done (by kernel_rfl) ?_
          refine Eq.left _ ⟨b55, b67, _, _, _, _, rfl, hB58, hB70, hT34, hT47, hTab35, hTab48, by omega, E, hB4, hB11, hB19⟩ (.cons rfl (.cons rfl (.cons rfl (.cons rfl (.cons rfl (.cons rfl (.cons rfl (.nil))))))))
        refine Sq.alloc1 zero57 rfl .plain rfl (fun b88 w89 e90 hB91 hlo92 => ?_)
        have hd93 := Nat.le_trans (Below.size E) hlo92
        have hd94 := Nat.lt_of_lt_of_le hB4.lt hlo92
        have hd95 := Nat.lt_of_lt_of_le hB11.lt hlo92
        have hd96 := Nat.lt_of_lt_of_le hB19.lt hlo92
        have hd97 := Nat.lt_of_lt_of_le hT34.lt hlo92
        have hd98 := Nat.lt_of_lt_of_le hT47.lt hlo92
        have hs99 := Below.size e90
        replace E := E.trans e90
        replace hB4 := hB4.ext e90
        replace hB11 := hB11.ext e90
        replace hB19 := hB19.ext e90
        replace hT34 := hT34.ext e90
        replace hT47 := hT47.ext e90
        refine Sq.nil ?_
        refine Eq.goes (fun _ => ⟨hB4, hB11⟩) ?_
        refine Gq.one 4 rfl (by kernel_rfl) ?_
        refine Sq.alloc1 zero57 rfl .plain rfl (fun b100 w101 e102 hB103 hlo104 => ?_)
        have hd105 := Nat.le_trans (Below.size E) hlo104
        have hd106 := Nat.lt_of_lt_of_le hB4.lt hlo104
        have hd107 := Nat.lt_of_lt_of_le hB11.lt hlo104
        have hd108 := Nat.lt_of_lt_of_le hB19.lt hlo104
        have hd109 := Nat.lt_of_lt_of_le hT34.lt hlo104
        have hd110 := Nat.lt_of_lt_of_le hT47.lt hlo104
        have hd111 := Nat.lt_of_lt_of_le hB91.lt hlo104
        have hs112 := Below.size e102
        replace E := E.trans e102
        replace hB4 := hB4.ext e102
        replace hB11 := hB11.ext e102
        replace hB19 := hB19.ext e102
        replace hT34 := hT34.ext e102
        replace hT47 := hT47.ext e102
        replace hB91 := hB91.ext e102
        refine Sq.nil ?_
        refine Eq.goes (fun _ => ⟨hB4, hB11⟩) ?_
        refine Gq.one 6 rfl (by kernel_rfl) ?_
        refine Sq.store one57 .plain rfl rfl rfl hB103 (by simp) (fun w113 g114 hB115 => ?_)
        have hs116 := World.grownBy.size g114
        replace E := E.grown g114 (fun k hk => by injection hk with hk; subst hk; omega)
        replace hB4 := hB4.grown g114 (by intro h; injection h with h; omega)
        replace hB11 := hB11.grown g114 (by intro h; injection h with h; omega)
        replace hB19 := hB19.grown g114 (by intro h; injection h with h; omega)
        replace hT34 := hT34.grown g114 (by intro h; injection h with h; omega)
        replace hT47 := hT47.grown g114 (by intro h; injection h with h; omega)
        replace hB91 := hB91.grown g114 (by intro h; injection h with h; omega)
        replace hB103 := hB115
        refine Sq.nil ?_
        refine Eq.goes (fun _ => ⟨hB4, hB11⟩) ?_
        refine Gq.one 7 rfl (by kernel_rfl) ?_
        refine Sq.store one57 .plain rfl rfl rfl hB91 (by simp) (fun w117 g118 hB119 => ?_)
        have hs120 := World.grownBy.size g118
        replace E := E.grown g118 (fun k hk => by injection hk with hk; subst hk; omega)
        replace hB4 := hB4.grown g118 (by intro h; injection h with h; omega)
        replace hB11 := hB11.grown g118 (by intro h; injection h with h; omega)
        replace hB19 := hB19.grown g118 (by intro h; injection h with h; omega)
        replace hT34 := hT34.grown g118 (by intro h; injection h with h; omega)
        replace hT47 := hT47.grown g118 (by intro h; injection h with h; omega)
        replace hB103 := hB103.grown g118 (by intro h; injection h with h; omega)
        replace hB91 := hB119
        refine Sq.nil ?_
        refine Eq.goes (fun h => absurd h (by decide)) ?_
        refine Gq.done (by kernel_rfl) ?_
        refine Eq.left _ ⟨b100, b88, _, _, _, _, rfl, hB103, hB91, hT34, hT47, hTab35, hTab48, by omega, E, hB4, hB11, hB19⟩ (.cons rfl (.cons rfl (.cons rfl (.cons rfl (.cons rfl (.cons rfl (.cons rfl (.nil))))))))
      · refine Sq.alloc1 zero57 rfl .plain rfl (fun b121 w122 e123 hB124 hlo125 => ?_)
        have hd126 := Nat.le_trans (Below.size E) hlo125
        have hd127 := Nat.lt_of_lt_of_le hB4.lt hlo125
        have hd128 := Nat.lt_of_lt_of_le hB11.lt hlo125
        have hd129 := Nat.lt_of_lt_of_le hB19.lt hlo125
        have hd130 := Nat.lt_of_lt_of_le hT34.lt hlo125
        have hs131 := Below.size e123
        replace E := E.trans e123
        replace hB4 := hB4.ext e123
        replace hB11 := hB11.ext e123
        replace hB19 := hB19.ext e123
        replace hT34 := hT34.ext e123
        refine Sq.nil ?_
        refine Eq.goes (fun _ => ⟨hB4, hB11⟩) ?_
        refine Gq.two 3 5 rfl rfl (by kernel_rfl) ?_ ?_
        · have hd140 := hB4.lt
          have hd141 := hB11.lt
          have hd142 := hB19.lt
          have hd143 := hT34.lt
          have hd144 := hB124.lt
          refine Sq.call fn48 .plain rfl rfl (tableOf_c _ b _ _ (hnx'.ext E) (hac'.ext E) hv') ?_
          rintro _ w133 ⟨⟨b135, xs136, rfl, hlo137, hT138, hTab139⟩, e134⟩
          have hs145 := Below.size E
          have hs146 := Below.size e134
          replace E := E.trans e134
          replace hB4 := hB4.ext e134
          replace hB11 := hB11.ext e134
          replace hB19 := hB19.ext e134
          replace hT34 := hT34.ext e134
          replace hB124 := hB124.ext e134
          refine Sq.nil ?_
          refine Eq.goes (fun _ => ⟨hB4, hB11⟩) ?_
          refine Gq.one 5 rfl (by kernel_rfl) ?_
          refine Sq.alloc1 zero57 rfl .plain rfl (fun b147 w148 e149 hB150 hlo151 => ?_)
          have hd152 := Nat.le_trans (Below.size E) hlo151
          have hd153 := Nat.lt_of_lt_of_le hB4.lt hlo151
          have hd154 := Nat.lt_of_lt_of_le hB11.lt hlo151
          have hd155 := Nat.lt_of_lt_of_le hB19.lt hlo151
          have hd156 := Nat.lt_of_lt_of_le hT34.lt hlo151
          have hd157 := Nat.lt_of_lt_of_le hB124.lt hlo151
          have hd158 := Nat.lt_of_lt_of_le hT138.lt hlo151
          have hs159 := Below.size e149
          replace E := E.trans e149
          replace hB4 := hB4.ext e149
          replace hB11 := hB11.ext e149
          replace hB19 := hB19.ext e149
          replace hT34 := hT34.ext e149
          replace hB124 := hB124.ext e149
          replace hT138 := hT138.ext e149
          refine Sq.nil ?_
          refine Eq.goes (fun _ => ⟨hB4, hB11⟩) ?_
          refine Gq.one 6 rfl (by kernel_rfl) ?_
          refine Sq.store one57 .plain rfl rfl rfl hB124 (by simp) (fun w160 g161 hB162 => ?_)
          have hs163 := World.grownBy.size g161
          replace E := E.grown g161 (fun k hk => by injection hk with hk; subst hk; omega)
          replace hB4 := hB4.grown g161 (by intro h; injection h with h; omega)
          replace hB11 := hB11.grown g161 (by intro h; injection h with h; omega)
          replace hB19 := hB19.grown g161 (by intro h; injection h with h; omega)
          replace hT34 := hT34.grown g161 (by intro h; injection h with h; omega)
          replace hT138 := hT138.grown g161 (by intro h; injection h with h; omega)
          replace hB150 := hB150.grown g161 (by intro h; injection h with h; omega)
          replace hB124 := hB162
          refine Sq.nil ?_
          refine Eq.goes (fun _ => ⟨hB4, hB11⟩) ?_
          refine Gq.one 7 rfl (by kernel_rfl) ?_
          refine Sq.store one57 .plain rfl rfl rfl hB150 (by simp) (fun w164 g165 hB166 => ?_)
          have hs167 := World.grownBy.size g165
          replace E := E.grown g165 (fun k hk => by injection hk with hk; subst hk; omega)
          replace hB4 := hB4.grown g165 (by intro h; injection h with h; omega)
          replace hB11 := hB11.grown g165 (by intro h; injection h with h; omega)
          replace hB19 := hB19.grown g165 (by intro h; injection h with h; omega)
          replace hT34 := hT34.grown g165 (by intro h; injection h with h; omega)
          replace hB124 := hB124.grown g165 (by intro h; injection h with h; omega)
          replace hT138 := hT138.grown g165 (by intro h; injection h with h; omega)
          replace hB150 := hB166
          refine Sq.nil ?_
          refine Eq.goes (fun h => absurd h (by decide)) ?_
          refine Gq.done (by kernel_rfl) ?_
          refine Eq.left _ ⟨b121, b147, _, _, _, _, rfl, hB124, hB150, hT34, hT138, hTab35, hTab139, by omega, E, hB4, hB11, hB19⟩ (.cons rfl (.cons rfl (.cons rfl (.cons rfl (.cons rfl (.cons rfl (.cons rfl (.nil))))))))
        refine Sq.alloc1 zero57 rfl .plain rfl (fun b168 w169 e170 hB171 hlo172 => ?_)
        have hd173 := Nat.le_trans (Below.size E) hlo172
        have hd174 := Nat.lt_of_lt_of_le hB4.lt hlo172
        have hd175 := Nat.lt_of_lt_of_le hB11.lt hlo172
        have hd176 := Nat.lt_of_lt_of_le hB19.lt hlo172
        have hd177 := Nat.lt_of_lt_of_le hT34.lt hlo172
        have hd178 := Nat.lt_of_lt_of_le hB124.lt hlo172
        have hs179 := Below.size e170
        replace E := E.trans e170
        replace hB4 := hB4.ext e170
        replace hB11 := hB11.ext e170
        replace hB19 := hB19.ext e170
        replace hT34 := hT34.ext e170
        replace hB124 := hB124.ext e170
        refine Sq.nil ?_
        refine Eq.goes (fun _ => ⟨hB4, hB11⟩) ?_
        refine Gq.one 3 rfl (by kernel_rfl) ?_
        have hd188 := hB4.lt
        have hd189 := hB11.lt
        have hd190 := hB19.lt
        have hd191 := hT34.lt
        have hd192 := hB124.lt
        have hd193 := hB171.lt
        refine Sq.call fn48 .plain rfl rfl (tableOf_c _ b _ _ (hnx'.ext E) (hac'.ext E) hv') ?_
        rintro _ w181 ⟨⟨b183, xs184, rfl, hlo185, hT186, hTab187⟩, e182⟩
        have hs194 := Below.size E
        have hs195 := Below.size e182
        replace E := E.trans e182
        replace hB4 := hB4.ext e182
        replace hB11 := hB11.ext e182
        replace hB19 := hB19.ext e182
        replace hT34 := hT34.ext e182
        replace hB124 := hB124.ext e182
        replace hB171 := hB171.ext e182
        refine Sq.nil ?_
        refine Eq.goes (fun _ => ⟨hB4, hB11⟩) ?_
        refine Gq.one 6 rfl (by kernel_rfl) ?_
        refine Sq.store one57 .plain rfl rfl rfl hB124 (by simp) (fun w196 g197 hB198 => ?_)
        have hs199 := World.grownBy.size g197
        replace E := E.grown g197 (fun k hk => by injection hk with hk; subst hk; omega)
        replace hB4 := hB4.grown g197 (by intro h; injection h with h; omega)
        replace hB11 := hB11.grown g197 (by intro h; injection h with h; omega)
        replace hB19 := hB19.grown g197 (by intro h; injection h with h; omega)
        replace hT34 := hT34.grown g197 (by intro h; injection h with h; omega)
        replace hB171 := hB171.grown g197 (by intro h; injection h with h; omega)
        replace hT186 := hT186.grown g197 (by intro h; injection h with h; omega)
        replace hB124 := hB198
        refine Sq.nil ?_
        refine Eq.goes (fun _ => ⟨hB4, hB11⟩) ?_
        refine Gq.one 7 rfl (by kernel_rfl) ?_
        refine Sq.store one57 .plain rfl rfl rfl hB171 (by simp) (fun w200 g201 hB202 => ?_)
        have hs203 := World.grownBy.size g201
        replace E := E.grown g201 (fun k hk => by injection hk with hk; subst hk; omega)
        replace hB4 := hB4.grown g201 (by intro h; injection h with h; omega)
        replace hB11 := hB11.grown g201 (by intro h; injection h with h; omega)
        replace hB19 := hB19.grown g201 (by intro h; injection h with h; omega)
        replace hT34 := hT34.grown g201 (by intro h; injection h with h; omega)
        replace hB124 := hB124.grown g201 (by intro h; injection h with h; omega)
        replace hT186 := hT186.grown g201 (by intro h; injection h with h; omega)
        replace hB171 := hB202
        refine Sq.nil ?_
        refine Eq.goes (fun h => absurd h (by decide)) ?_
        refine Gq.done (by kernel_rfl) ?_
        refine Eq.left _ ⟨b121, b168, _, _, _, _, rfl, hB124, hB171, hT34, hT186, hTab35, hTab187, by omega, E, hB4, hB11, hB19⟩ (.cons rfl (.cons rfl (.cons rfl (.cons rfl (.cons rfl (.cons rfl (.cons rfl (.nil))))))))
      refine Sq.alloc1 zero57 rfl .plain rfl (fun b204 w205 e206 hB207 hlo208 => ?_)
      have hd209 := Nat.le_trans (Below.size E) hlo208
      have hd210 := Nat.lt_of_lt_of_le hB4.lt hlo208
      have hd211 := Nat.lt_of_lt_of_le hB11.lt hlo208
      have hd212 := Nat.lt_of_lt_of_le hB19.lt hlo208
      have hd213 := Nat.lt_of_lt_of_le hT34.lt hlo208
      have hs214 := Below.size e206
      replace E := E.trans e206
      replace hB4 := hB4.ext e206
      replace hB11 := hB11.ext e206
      replace hB19 := hB19.ext e206
      replace hT34 := hT34.ext e206
      refine Sq.nil ?_
      refine Eq.goes (fun _ => ⟨hB4, hB11⟩) ?_
      refine Gq.two 3 4 rfl rfl (by kernel_rfl) ?_ ?_
      · have hd223 := hB4.lt
        have hd224 := hB11.lt
        have hd225 := hB19.lt
        have hd226 := hT34.lt
        have hd227 := hB207.lt
        refine Sq.call fn48 .plain rfl rfl (tableOf_c _ b _ _ (hnx'.ext E) (hac'.ext E) hv') ?_
        rintro _ w216 ⟨⟨b218, xs219, rfl, hlo220, hT221, hTab222⟩, e217⟩
        have hs228 := Below.size E
        have hs229 := Below.size e217
        replace E := E.trans e217
        replace hB4 := hB4.ext e217
        replace hB11 := hB11.ext e217
        replace hB19 := hB19.ext e217
        replace hT34 := hT34.ext e217
        replace hB207 := hB207.ext e217
        refine Sq.nil ?_
        refine Eq.goes (fun _ => ⟨hB4, hB11⟩) ?_
        refine Gq.one 4 rfl (by kernel_rfl) ?_
        refine Sq.alloc1 zero57 rfl .plain rfl (fun b230 w231 e232 hB233 hlo234 => ?_)
        have hd235 := Nat.le_trans (Below.size E) hlo234
        have hd236 := Nat.lt_of_lt_of_le hB4.lt hlo234
        have hd237 := Nat.lt_of_lt_of_le hB11.lt hlo234
        have hd238 := Nat.lt_of_lt_of_le hB19.lt hlo234
        have hd239 := Nat.lt_of_lt_of_le hT34.lt hlo234
        have hd240 := Nat.lt_of_lt_of_le hB207.lt hlo234
        have hd241 := Nat.lt_of_lt_of_le hT221.lt hlo234
        have hs242 := Below.size e232
        replace E := E.trans e232
        replace hB4 := hB4.ext e232
        replace hB11 := hB11.ext e232
        replace hB19 := hB19.ext e232
        replace hT34 := hT34.ext e232
        replace hB207 := hB207.ext e232
        replace hT221 := hT221.ext e232
        refine Sq.nil ?_
        refine Eq.goes (fun _ => ⟨hB4, hB11⟩) ?_
        refine Gq.one 6 rfl (by kernel_rfl) ?_
        refine Sq.store one57 .plain rfl rfl rfl hB233 (by simp) (fun w243 g244 hB245 => ?_)
        have hs246 := World.grownBy.size g244
        replace E := E.grown g244 (fun k hk => by injection hk with hk; subst hk; omega)
        replace hB4 := hB4.grown g244 (by intro h; injection h with h; omega)
        replace hB11 := hB11.grown g244 (by intro h; injection h with h; omega)
        replace hB19 := hB19.grown g244 (by intro h; injection h with h; omega)
        replace hT34 := hT34.grown g244 (by intro h; injection h with h; omega)
        replace hB207 := hB207.grown g244 (by intro h; injection h with h; omega)
        replace hT221 := hT221.grown g244 (by intro h; injection h with h; omega)
        replace hB233 := hB245
        refine Sq.nil ?_
        refine Eq.goes (fun _ => ⟨hB4, hB11⟩) ?_
        refine Gq.one 7 rfl (by kernel_rfl) ?_
        refine Sq.store one57 .plain rfl rfl rfl hB207 (by simp) (fun w247 g248 hB249 => ?_)
        have hs250 := World.grownBy.size g248
        replace E := E.grown g248 (fun k hk => by injection hk with hk; subst hk; omega)
        replace hB4 := hB4.grown g248 (by intro h; injection h with h; omega)
        replace hB11 := hB11.grown g248 (by intro h; injection h with h; omega)
        replace hB19 := hB19.grown g248 (by intro h; injection h with h; omega)
        replace hT34 := hT34.grown g248 (by intro h; injection h with h; omega)
        replace hT221 := hT221.grown g248 (by intro h; injection h with h; omega)
        replace hB233 := hB233.grown g248 (by intro h; injection h with h; omega)
        replace hB207 := hB249
        refine Sq.nil ?_
        refine Eq.goes (fun h => absurd h (by decide)) ?_
        refine Gq.done (by kernel_rfl) ?_
        refine Eq.left _ ⟨b230, b204, _, _, _, _, rfl, hB233, hB207, hT34, hT221, hTab35, hTab222, by omega, E, hB4, hB11, hB19⟩ (.cons rfl (.cons rfl (.cons rfl (.cons rfl (.cons rfl (.cons rfl (.cons rfl (.nil))))))))
      refine Sq.alloc1 zero57 rfl .plain rfl (fun b251 w252 e253 hB254 hlo255 => ?_)
      have hd256 := Nat.le_trans (Below.size E) hlo255
      have hd257 := Nat.lt_of_lt_of_le hB4.lt hlo255
      have hd258 := Nat.lt_of_lt_of_le hB11.lt hlo255
      have hd259 := Nat.lt_of_lt_of_le hB19.lt hlo255
      have hd260 := Nat.lt_of_lt_of_le hT34.lt hlo255
      have hd261 := Nat.lt_of_lt_of_le hB207.lt hlo255
      have hs262 := Below.size e253
      replace E := E.trans e253
      replace hB4 := hB4.ext e253
      replace hB11 := hB11.ext e253
      replace hB19 := hB19.ext e253
      replace hT34 := hT34.ext e253
      replace hB207 := hB207.ext e253
      refine Sq.nil ?_
      refine Eq.goes (fun _ => ⟨hB4, hB11⟩) ?_
      refine Gq.one 3 rfl (by kernel_rfl) ?_
      have hd271 := hB4.lt
      have hd272 := hB11.lt
      have hd273 := hB19.lt
      have hd274 := hT34.lt
      have hd275 := hB207.lt
      have hd276 := hB254.lt
      refine Sq.call fn48 .plain rfl rfl (tableOf_c _ b _ _ (hnx'.ext E) (hac'.ext E) hv') ?_
      rintro _ w264 ⟨⟨b266, xs267, rfl, hlo268, hT269, hTab270⟩, e265⟩
      have hs277 := Below.size E
      have hs278 := Below.size e265
      replace E := E.trans e265
      replace hB4 := hB4.ext e265
      replace hB11 := hB11.ext e265
      replace hB19 := hB19.ext e265
      replace hT34 := hT34.ext e265
      replace hB207 := hB207.ext e265
      replace hB254 := hB254.ext e265
      refine Sq.nil ?_
      refine Eq.goes (fun _ => ⟨hB4, hB11⟩) ?_
      refine Gq.one 6 rfl (by kernel_rfl) ?_
      refine Sq.store one57 .plain rfl rfl rfl hB254 (by simp) (fun w279 g280 hB281 => ?_)
      have hs282 := World.grownBy.size g280
      replace E := E.grown g280 (fun k hk => by injection hk with hk; subst hk; omega)
      replace hB4 := hB4.grown g280 (by intro h; injection h with h; omega)
      replace hB11 := hB11.grown g280 (by intro h; injection h with h; omega)
      replace hB19 := hB19.grown g280 (by intro h; injection h with h; omega)
      replace hT34 := hT34.grown g280 (by intro h; injection h with h; omega)
      replace hB207 := hB207.grown g280 (by intro h; injection h with h; omega)
      replace hT269 := hT269.grown g280 (by intro h; injection h with h; omega)
      replace hB254 := hB281
      refine Sq.nil ?_
      refine Eq.goes (fun _ => ⟨hB4, hB11⟩) ?_
      refine Gq.one 7 rfl (by kernel_rfl) ?_
      refine Sq.store one57 .plain rfl rfl rfl hB207 (by simp) (fun w283 g284 hB285 => ?_)
      have hs286 := World.grownBy.size g284
      replace E := E.grown g284 (fun k hk => by injection hk with hk; subst hk; omega)
      replace hB4 := hB4.grown g284 (by intro h; injection h with h; omega)
      replace hB11 := hB11.grown g284 (by intro h; injection h with h; omega)
      replace hB19 := hB19.grown g284 (by intro h; injection h with h; omega)
      replace hT34 := hT34.grown g284 (by intro h; injection h with h; omega)
      replace hB254 := hB254.grown g284 (by intro h; injection h with h; omega)
      replace hT269 := hT269.grown g284 (by intro h; injection h with h; omega)
      replace hB207 := hB285
      refine Sq.nil ?_
      refine Eq.goes (fun h => absurd h (by decide)) ?_
      refine Gq.done (by kernel_rfl) ?_
      refine Eq.left _ ⟨b251, b204, _, _, _, _, rfl, hB254, hB207, hT34, hT269, hTab35, hTab270, by omega, E, hB4, hB11, hB19⟩ (.cons rfl (.cons rfl (.cons rfl (.cons rfl (.cons rfl (.cons rfl (.cons rfl (.nil))))))))
    · refine Sq.alloc1 zero57 rfl .plain rfl (fun b287 w288 e289 hB290 hlo291 => ?_)
      have hd292 := Nat.le_trans (Below.size E) hlo291
      have hd293 := Nat.lt_of_lt_of_le hB4.lt hlo291
      have hd294 := Nat.lt_of_lt_of_le hB11.lt hlo291
      have hd295 := Nat.lt_of_lt_of_le hB19.lt hlo291
      have hs296 := Below.size e289
      replace E := E.trans e289
      replace hB4 := hB4.ext e289
      replace hB11 := hB11.ext e289
      replace hB19 := hB19.ext e289
      refine Sq.nil ?_
      refine Eq.goes (fun _ => ⟨hB4, hB11⟩) ?_
      refine Gq.two 1 5 rfl rfl (by kernel_rfl) ?_ ?_
      · have hd305 := hB4.lt
        have hd306 := hB11.lt
        have hd307 := hB19.lt
        have hd308 := hB290.lt
        refine Sq.call fn48 .plain rfl rfl (tableOf_c _ a _ _ (hnx.ext E) (hac.ext E) hv) ?_
        rintro _ w298 ⟨⟨b300, xs301, rfl, hlo302, hT303, hTab304⟩, e299⟩
        have hs309 := Below.size E
        have hs310 := Below.size e299
        replace E := E.trans e299
        replace hB4 := hB4.ext e299
        replace hB11 := hB11.ext e299
        replace hB19 := hB19.ext e299
        replace hB290 := hB290.ext e299
        refine Sq.nil ?_
        refine Eq.goes (fun _ => ⟨hB4, hB11⟩) ?_
        refine Gq.two 3 5 rfl rfl (by kernel_rfl) ?_ ?_
        · have hd319 := hB4.lt
          have hd320 := hB11.lt
          have hd321 := hB19.lt
          have hd322 := hB290.lt
          have hd323 := hT303.lt
          refine Sq.call fn48 .plain rfl rfl (tableOf_c _ b _ _ (hnx'.ext E) (hac'.ext E) hv') ?_
          rintro _ w312 ⟨⟨b314, xs315, rfl, hlo316, hT317, hTab318⟩, e313⟩
          have hs324 := Below.size E
          have hs325 := Below.size e313
          replace E := E.trans e313
          replace hB4 := hB4.ext e313
          replace hB11 := hB11.ext e313
          replace hB19 := hB19.ext e313
          replace hB290 := hB290.ext e313
          replace hT303 := hT303.ext e313
          refine Sq.nil ?_
          refine Eq.goes (fun _ => ⟨hB4, hB11⟩) ?_
          refine Gq.one 5 rfl (by kernel_rfl) ?_
          refine Sq.alloc1 zero57 rfl .plain rfl (fun b326 w327 e328 hB329 hlo330 => ?_)
          have hd331 := Nat.le_trans (Below.size E) hlo330
          have hd332 := Nat.lt_of_lt_of_le hB4.lt hlo330
          have hd333 := Nat.lt_of_lt_of_le hB11.lt hlo330
          have hd334 := Nat.lt_of_lt_of_le hB19.lt hlo330
          have hd335 := Nat.lt_of_lt_of_le hB290.lt hlo330
          have hd336 := Nat.lt_of_lt_of_le hT303.lt hlo330
          have hd337 := Nat.lt_of_lt_of_le hT317.lt hlo330
          have hs338 := Below.size e328
          replace E := E.trans e328
          replace hB4 := hB4.ext e328
          replace hB11 := hB11.ext e328
          replace hB19 := hB19.ext e328
          replace hB290 := hB290.ext e328
          replace hT303 := hT303.ext e328
          replace hT317 := hT317.ext e328
          refine Sq.nil ?_
          refine Eq.goes (fun _ => ⟨hB4, hB11⟩) ?_
          refine Gq.one 6 rfl (by kernel_rfl) ?_
          refine Sq.store one57 .plain rfl rfl rfl hB290 (by simp) (fun w339 g340 hB341 => ?_)
          have hs342 := World.grownBy.size g340
          replace E := E.grown g340 (fun k hk => by injection hk with hk; subst hk; omega)
          replace hB4 := hB4.grown g340 (by intro h; injection h with h; omega)
          replace hB11 := hB11.grown g340 (by intro h; injection h with h; omega)
          replace hB19 := hB19.grown g340 (by intro h; injection h with h; omega)
          replace hT303 := hT303.grown g340 (by intro h; injection h with h; omega)
          replace hT317 := hT317.grown g340 (by intro h; injection h with h; omega)
          replace hB329 := hB329.grown g340 (by intro h; injection h with h; omega)
          replace hB290 := hB341
          refine Sq.nil ?_
          refine Eq.goes (fun _ => ⟨hB4, hB11⟩) ?_
          refine Gq.one 7 rfl (by kernel_rfl) ?_
          refine Sq.store one57 .plain rfl rfl rfl hB329 (by simp) (fun w343 g344 hB345 => ?_)
          have hs346 := World.grownBy.size g344
          replace E := E.grown g344 (fun k hk => by injection hk with hk; subst hk; omega)
          replace hB4 := hB4.grown g344 (by intro h; injection h with h; omega)
          replace hB11 := hB11.grown g344 (by intro h; injection h with h; omega)
          replace hB19 := hB19.grown g344 (by intro h; injection h with h; omega)
          replace hB290 := hB290.grown g344 (by intro h; injection h with h; omega)
          replace hT303 := hT303.grown g344 (by intro h; injection h with h; omega)
          replace hT317 := hT317.grown g344 (by intro h; injection h with h; omega)
          replace hB329 := hB345
          refine Sq.nil ?_
          refine Eq.goes (fun h => absurd h (by decide)) ?_
          refine Gq.done (by kernel_rfl) ?_
          refine Eq.left _ ⟨b287, b326, _, _, _, _, rfl, hB290, hB329, hT303, hT317, hTab304, hTab318, by omega, E, hB4, hB11, hB19⟩ (.cons rfl (.cons rfl (.cons rfl (.cons rfl (.cons rfl (.cons rfl (.cons rfl (.nil))))))))
        refine Sq.alloc1 zero57 rfl .plain rfl (fun b347 w348 e349 hB350 hlo351 => ?_)
        have hd352 := Nat.le_trans (Below.size E) hlo351
        have hd353 := Nat.lt_of_lt_of_le hB4.lt hlo351
        have hd354 := Nat.lt_of_lt_of_le hB11.lt hlo351
        have hd355 := Nat.lt_of_lt_of_le hB19.lt hlo351
        have hd356 := Nat.lt_of_lt_of_le hB290.lt hlo351
        have hd357 := Nat.lt_of_lt_of_le hT303.lt hlo351
        have hs358 := Below.size e349
        replace E := E.trans e349
        replace hB4 := hB4.ext e349
        replace hB11 := hB11.ext e349
        replace hB19 := hB19.ext e349
        replace hB290 := hB290.ext e349
        replace hT303 := hT303.ext e349
        refine Sq.nil ?_
        refine Eq.goes (fun _ => ⟨hB4, hB11⟩) ?_
        refine Gq.one 3 rfl (by kernel_rfl) ?_
        have hd367 := hB4.lt
        have hd368 := hB11.lt
        have hd369 := hB19.lt
        have hd370 := hB290.lt
        have hd371 := hT303.lt
        have hd372 := hB350.lt
        refine Sq.call fn48 .plain rfl rfl (tableOf_c _ b _ _ (hnx'.ext E) (hac'.ext E) hv') ?_
        rintro _ w360 ⟨⟨b362, xs363, rfl, hlo364, hT365, hTab366⟩, e361⟩
        have hs373 := Below.size E
        have hs374 := Below.size e361
        replace E := E.trans e361
        replace hB4 := hB4.ext e361
        replace hB11 := hB11.ext e361
        replace hB19 := hB19.ext e361
        replace hB290 := hB290.ext e361
        replace hT303 := hT303.ext e361
        replace hB350 := hB350.ext e361
        refine Sq.nil ?_
        refine Eq.goes (fun _ => ⟨hB4, hB11⟩) ?_
        refine Gq.one 6 rfl (by kernel_rfl) ?_
        refine Sq.store one57 .plain rfl rfl rfl hB290 (by simp) (fun w375 g376 hB377 => ?_)
        have hs378 := World.grownBy.size g376
        replace E := E.grown g376 (fun k hk => by injection hk with hk; subst hk; omega)
        replace hB4 := hB4.grown g376 (by intro h; injection h with h; omega)
        replace hB11 := hB11.grown g376 (by intro h; injection h with h; omega)
        replace hB19 := hB19.grown g376 (by intro h; injection h with h; omega)
        replace hT303 := hT303.grown g376 (by intro h; injection h with h; omega)
        replace hB350 := hB350.grown g376 (by intro h; injection h with h; omega)
        replace hT365 := hT365.grown g376 (by intro h; injection h with h; omega)
        replace hB290 := hB377
        refine Sq.nil ?_
        refine Eq.goes (fun _ => ⟨hB4, hB11⟩) ?_
        refine Gq.one 7 rfl (by kernel_rfl) ?_
        refine Sq.store one57 .plain rfl rfl rfl hB350 (by simp) (fun w379 g380 hB381 => ?_)
        have hs382 := World.grownBy.size g380
        replace E := E.grown g380 (fun k hk => by injection hk with hk; subst hk; omega)
        replace hB4 := hB4.grown g380 (by intro h; injection h with h; omega)
        replace hB11 := hB11.grown g380 (by intro h; injection h with h; omega)
        replace hB19 := hB19.grown g380 (by intro h; injection h with h; omega)
        replace hB290 := hB290.grown g380 (by intro h; injection h with h; omega)
        replace hT303 := hT303.grown g380 (by intro h; injection h with h; omega)
        replace hT365 := hT365.grown g380 (by intro h; injection h with h; omega)
        replace hB350 := hB381
        refine Sq.nil ?_
        refine Eq.goes (fun h => absurd h (by decide)) ?_
        refine Gq.done (by kernel_rfl) ?_
        refine Eq.left _ ⟨b287, b347, _, _, _, _, rfl, hB290, hB350, hT303, hT365, hTab304, hTab366, by omega, E, hB4, hB11, hB19⟩ (.cons rfl (.cons rfl (.cons rfl (.cons rfl (.cons rfl (.cons rfl (.cons rfl (.nil))))))))
      refine Sq.alloc1 zero57 rfl .plain rfl (fun b383 w384 e385 hB386 hlo387 => ?_)
      have hd388 := Nat.le_trans (Below.size E) hlo387
      have hd389 := Nat.lt_of_lt_of_le hB4.lt hlo387
      have hd390 := Nat.lt_of_lt_of_le hB11.lt hlo387
      have hd391 := Nat.lt_of_lt_of_le hB19.lt hlo387
      have hd392 := Nat.lt_of_lt_of_le hB290.lt hlo387
      have hs393 := Below.size e385
      replace E := E.trans e385
      replace hB4 := hB4.ext e385
      replace hB11 := hB11.ext e385
      replace hB19 := hB19.ext e385
      replace hB290 := hB290.ext e385
      refine Sq.nil ?_
      refine Eq.goes (fun _ => ⟨hB4, hB11⟩) ?_
      refine Gq.one 1 rfl (by kernel_rfl) ?_
      have hd402 := hB4.lt
      have hd403 := hB11.lt
      have hd404 := hB19.lt
      have hd405 := hB290.lt
      have hd406 := hB386.lt
      refine Sq.call fn48 .plain rfl rfl (tableOf_c _ a _ _ (hnx.ext E) (hac.ext E) hv) ?_
      rintro _ w395 ⟨⟨b397, xs398, rfl, hlo399, hT400, hTab401⟩, e396⟩
      have hs407 := Below.size E
      have hs408 := Below.size e396
      replace E := E.trans e396
      replace hB4 := hB4.ext e396
      replace hB11 := hB11.ext e396
      replace hB19 := hB19.ext e396
      replace hB290 := hB290.ext e396
      replace hB386 := hB386.ext e396
      refine Sq.nil ?_
      refine Eq.goes (fun _ => ⟨hB4, hB11⟩) ?_
      refine Gq.one 3 rfl (by kernel_rfl) ?_
      have hd417 := hB4.lt
      have hd418 := hB11.lt
      have hd419 := hB19.lt
      have hd420 := hB290.lt
      have hd421 := hB386.lt
      have hd422 := hT400.lt
      refine Sq.call fn48 .plain rfl rfl (tableOf_c _ b _ _ (hnx'.ext E) (hac'.ext E) hv') ?_
      rintro _ w410 ⟨⟨b412, xs413, rfl, hlo414, hT415, hTab416⟩, e411⟩
      have hs423 := Below.size E
      have hs424 := Below.size e411
      replace E := E.trans e411
      replace hB4 := hB4.ext e411
      replace hB11 := hB11.ext e411
      replace hB19 := hB19.ext e411
      replace hB290 := hB290.ext e411
      replace hB386 := hB386.ext e411
      replace hT400 := hT400.ext e411
      refine Sq.nil ?_
      refine Eq.goes (fun _ => ⟨hB4, hB11⟩) ?_
      refine Gq.one 6 rfl (by kernel_rfl) ?_
      refine Sq.store one57 .plain rfl rfl rfl hB290 (by simp) (fun w425 g426 hB427 => ?_)
      have hs428 := World.grownBy.size g426
      replace E := E.grown g426 (fun k hk => by injection hk with hk; subst hk; omega)
      replace hB4 := hB4.grown g426 (by intro h; injection h with h; omega)
      replace hB11 := hB11.grown g426 (by intro h; injection h with h; omega)
      replace hB19 := hB19.grown g426 (by intro h; injection h with h; omega)
      replace hB386 := hB386.grown g426 (by intro h; injection h with h; omega)
      replace hT400 := hT400.grown g426 (by intro h; injection h with h; omega)
      replace hT415 := hT415.grown g426 (by intro h; injection h with h; omega)
      replace hB290 := hB427
      refine Sq.nil ?_
      refine Eq.goes (fun _ => ⟨hB4, hB11⟩) ?_
      refine Gq.one 7 rfl (by kernel_rfl) ?_
      refine Sq.store one57 .plain rfl rfl rfl hB386 (by simp) (fun w429 g430 hB431 => ?_)
      have hs432 := World.grownBy.size g430
      replace E := E.grown g430 (fun k hk => by injection hk with hk; subst hk; omega)
      replace hB4 := hB4.grown g430 (by intro h; injection h with h; omega)
      replace hB11 := hB11.grown g430 (by intro h; injection h with h; omega)
      replace hB19 := hB19.grown g430 (by intro h; injection h with h; omega)
      replace hB290 := hB290.grown g430 (by intro h; injection h with h; omega)
      replace hT400 := hT400.grown g430 (by intro h; injection h with h; omega)
      replace hT415 := hT415.grown g430 (by intro h; injection h with h; omega)
      replace hB386 := hB431
      refine Sq.nil ?_
      refine Eq.goes (fun h => absurd h (by decide)) ?_
      refine Gq.done (by kernel_rfl) ?_
      refine Eq.left _ ⟨b287, b383, _, _, _, _, rfl, hB290, hB386, hT400, hT415, hTab401, hTab416, by omega, E, hB4, hB11, hB19⟩ (.cons rfl (.cons rfl (.cons rfl (.cons rfl (.cons rfl (.cons rfl (.cons rfl (.nil))))))))
    refine Sq.alloc1 zero57 rfl .plain rfl (fun b433 w434 e435 hB436 hlo437 => ?_)
    have hd438 := Nat.le_trans (Below.size E) hlo437
    have hd439 := Nat.lt_of_lt_of_le hB4.lt hlo437
    have hd440 := Nat.lt_of_lt_of_le hB11.lt hlo437
    have hd441 := Nat.lt_of_lt_of_le hB19.lt hlo437
    have hs442 := Below.size e435
    replace E := E.trans e435
    replace hB4 := hB4.ext e435
    replace hB11 := hB11.ext e435
    replace hB19 := hB19.ext e435
    refine Sq.nil ?_
    refine Eq.goes (fun _ => ⟨hB4, hB11⟩) ?_
    refine Gq.two 1 4 rfl rfl (by kernel_rfl) ?_ ?_
    · have hd451 := hB4.lt
      have hd452 := hB11.lt
      have hd453 := hB19.lt
      have hd454 := hB436.lt
      refine Sq.call fn48 .plain rfl rfl (tableOf_c _ a _ _ (hnx.ext E) (hac.ext E) hv) ?_
      rintro _ w444 ⟨⟨b446, xs447, rfl, hlo448, hT449, hTab450⟩, e445⟩
      have hs455 := Below.size E
      have hs456 := Below.size e445
      replace E := E.trans e445
      replace hB4 := hB4.ext e445
      replace hB11 := hB11.ext e445
      replace hB19 := hB19.ext e445
      replace hB436 := hB436.ext e445
      refine Sq.nil ?_
      refine Eq.goes (fun _ => ⟨hB4, hB11⟩) ?_
      refine Gq.two 3 4 rfl rfl (by kernel_rfl) ?_ ?_
      · have hd465 := hB4.lt
        have hd466 := hB11.lt
        have hd467 := hB19.lt
        have hd468 := hB436.lt
        have hd469 := hT449.lt
        refine Sq.call fn48 .plain rfl rfl (tableOf_c _ b _ _ (hnx'.ext E) (hac'.ext E) hv') ?_
        rintro _ w458 ⟨⟨b460, xs461, rfl, hlo462, hT463, hTab464⟩, e459⟩
        have hs470 := Below.size E
        have hs471 := Below.size e459
        replace E := E.trans e459
        replace hB4 := hB4.ext e459
        replace hB11 := hB11.ext e459
        replace hB19 := hB19.ext e459
        replace hB436 := hB436.ext e459
        replace hT449 := hT449.ext e459
        refine Sq.nil ?_
        refine Eq.goes (fun _ => ⟨hB4, hB11⟩) ?_
        refine Gq.one 4 rfl (by kernel_rfl) ?_
        refine Sq.alloc1 zero57 rfl .plain rfl (fun b472 w473 e474 hB475 hlo476 => ?_)
        have hd477 := Nat.le_trans (Below.size E) hlo476
        have hd478 := Nat.lt_of_lt_of_le hB4.lt hlo476
        have hd479 := Nat.lt_of_lt_of_le hB11.lt hlo476
        have hd480 := Nat.lt_of_lt_of_le hB19.lt hlo476
        have hd481 := Nat.lt_of_lt_of_le hB436.lt hlo476
        have hd482 := Nat.lt_of_lt_of_le hT449.lt hlo476
        have hd483 := Nat.lt_of_lt_of_le hT463.lt hlo476
        have hs484 := Below.size e474
        replace E := E.trans e474
        replace hB4 := hB4.ext e474
        replace hB11 := hB11.ext e474
        replace hB19 := hB19.ext e474
        replace hB436 := hB436.ext e474
        replace hT449 := hT449.ext e474
        replace hT463 := hT463.ext e474
        refine Sq.nil ?_
        refine Eq.goes (fun _ => ⟨hB4, hB11⟩) ?_
        refine Gq.one 6 rfl (by kernel_rfl) ?_
        refine Sq.store one57 .plain rfl rfl rfl hB475 (by simp) (fun w485 g486 hB487 => ?_)
        have hs488 := World.grownBy.size g486
        replace E := E.grown g486 (fun k hk => by injection hk with hk; subst hk; omega)
        replace hB4 := hB4.grown g486 (by intro h; injection h with h; omega)
        replace hB11 := hB11.grown g486 (by intro h; injection h with h; omega)
        replace hB19 := hB19.grown g486 (by intro h; injection h with h; omega)
        replace hB436 := hB436.grown g486 (by intro h; injection h with h; omega)
        replace hT449 := hT449.grown g486 (by intro h; injection h with h; omega)
        replace hT463 := hT463.grown g486 (by intro h; injection h with h; omega)
        replace hB475 := hB487
        refine Sq.nil ?_
        refine Eq.goes (fun _ => ⟨hB4, hB11⟩) ?_
        refine Gq.one 7 rfl (by kernel_rfl) ?_
        refine Sq.store one57 .plain rfl rfl rfl hB436 (by simp) (fun w489 g490 hB491 => ?_)
        have hs492 := World.grownBy.size g490
        replace E := E.grown g490 (fun k hk => by injection hk with hk; subst hk; omega)
        replace hB4 := hB4.grown g490 (by intro h; injection h with h; omega)
        replace hB11 := hB11.grown g490 (by intro h; injection h with h; omega)
        replace hB19 := hB19.grown g490 (by intro h; injection h with h; omega)
        replace hT449 := hT449.grown g490 (by intro h; injection h with h; omega)
        replace hT463 := hT463.grown g490 (by intro h; injection h with h; omega)
        replace hB475 := hB475.grown g490 (by intro h; injection h with h; omega)
        replace hB436 := hB491
        refine Sq.nil ?_
        refine Eq.goes (fun h => absurd h (by decide)) ?_
        refine Gq.done (by kernel_rfl) ?_
        refine Eq.left _ ⟨b472, b433, _, _, _, _, rfl, hB475, hB436, hT449, hT463, hTab450, hTab464, by omega, E, hB4, hB11, hB19⟩ (.cons rfl (.cons rfl (.cons rfl (.cons rfl (.cons rfl (.cons rfl (.cons rfl (.nil))))))))
      refine Sq.alloc1 zero57 rfl .plain rfl (fun b493 w494 e495 hB496 hlo497 => ?_)
      have hd498 := Nat.le_trans (Below.size E) hlo497
      have hd499 := Nat.lt_of_lt_of_le hB4.lt hlo497
      have hd500 := Nat.lt_of_lt_of_le hB11.lt hlo497
      have hd501 := Nat.lt_of_lt_of_le hB19.lt hlo497
      have hd502 := Nat.lt_of_lt_of_le hB436.lt hlo497
      have hd503 := Nat.lt_of_lt_of_le hT449.lt hlo497
      have hs504 := Below.size e495
      replace E := E.trans e495
      replace hB4 := hB4.ext e495
      replace hB11 := hB11.ext e495
      replace hB19 := hB19.ext e495
      replace hB436 := hB436.ext e495
      replace hT449 := hT449.ext e495
      refine Sq.nil ?_
      refine Eq.goes (fun _ => ⟨hB4, hB11⟩) ?_
      refine Gq.one 3 rfl (by kernel_rfl) ?_
      have hd513 := hB4.lt
      have hd514 := hB11.lt
      have hd515 := hB19.lt
      have hd516 := hB436.lt
      have hd517 := hT449.lt
      have hd518 := hB496.lt
      refine Sq.call fn48 .plain rfl rfl (tableOf_c _ b _ _ (hnx'.ext E) (hac'.ext E) hv') ?_
      rintro _ w506 ⟨⟨b508, xs509, rfl, hlo510, hT511, hTab512⟩, e507⟩
      have hs519 := Below.size E
      have hs520 := Below.size e507
      replace E := E.trans e507
      replace hB4 := hB4.ext e507
      replace hB11 := hB11.ext e507
      replace hB19 := hB19.ext e507
      replace hB436 := hB436.ext e507
      replace hT449 := hT449.ext e507
      replace hB496 := hB496.ext e507
      refine Sq.nil ?_
      refine Eq.goes (fun _ => ⟨hB4, hB11⟩) ?_
      refine Gq.one 6 rfl (by kernel_rfl) ?_
      refine Sq.store one57 .plain rfl rfl rfl hB496 (by simp) (fun w521 g522 hB523 => ?_)
      have hs524 := World.grownBy.size g522
      replace E := E.grown g522 (fun k hk => by injection hk with hk; subst hk; omega)
      replace hB4 := hB4.grown g522 (by intro h; injection h with h; omega)
      replace hB11 := hB11.grown g522 (by intro h; injection h with h; omega)
      replace hB19 := hB19.grown g522 (by intro h; injection h with h; omega)
      replace hB436 := hB436.grown g522 (by intro h; injection h with h; omega)
      replace hT449 := hT449.grown g522 (by intro h; injection h with h; omega)
      replace hT511 := hT511.grown g522 (by intro h; injection h with h; omega)
      replace hB496 := hB523
      refine Sq.nil ?_
      refine Eq.goes (fun _ => ⟨hB4, hB11⟩) ?_
      refine Gq.one 7 rfl (by kernel_rfl) ?_
      refine Sq.store one57 .plain rfl rfl rfl hB436 (by simp) (fun w525 g526 hB527 => ?_)
      have hs528 := World.grownBy.size g526
      replace E := E.grown g526 (fun k hk => by injection hk with hk; subst hk; omega)
      replace hB4 := hB4.grown g526 (by intro h; injection h with h; omega)
      replace hB11 := hB11.grown g526 (by intro h; injection h with h; omega)
      replace hB19 := hB19.grown g526 (by intro h; injection h with h; omega)
      replace hT449 := hT449.grown g526 (by intro h; injection h with h; omega)
      replace hB496 := hB496.grown g526 (by intro h; injection h with h; omega)
      replace hT511 := hT511.grown g526 (by intro h; injection h with h; omega)
      replace hB436 := hB527
      refine Sq.nil ?_
      refine Eq.goes (fun h => absurd h (by decide)) ?_
      refine Gq.done (by kernel_rfl) ?_
      refine Eq.left _ ⟨b493, b433, _, _, _, _, rfl, hB496, hB436, hT449, hT511, hTab450, hTab512, by omega, E, hB4, hB11, hB19⟩ (.cons rfl (.cons rfl (.cons rfl (.cons rfl (.cons rfl (.cons rfl (.cons rfl (.nil))))))))
    refine Sq.alloc1 zero57 rfl .plain rfl (fun b529 w530 e531 hB532 hlo533 => ?_)
    have hd534 := Nat.le_trans (Below.size E) hlo533
    have hd535 := Nat.lt_of_lt_of_le hB4.lt hlo533
    have hd536 := Nat.lt_of_lt_of_le hB11.lt hlo533
    have hd537 := Nat.lt_of_lt_of_le hB19.lt hlo533
    have hd538 := Nat.lt_of_lt_of_le hB436.lt hlo533
    have hs539 := Below.size e531
    replace E := E.trans e531
    replace hB4 := hB4.ext e531
    replace hB11 := hB11.ext e531
    replace hB19 := hB19.ext e531
    replace hB436 := hB436.ext e531
    refine Sq.nil ?_
    refine Eq.goes (fun _ => ⟨hB4, hB11⟩) ?_
    refine Gq.one 1 rfl (by kernel_rfl) ?_
    have hd548 := hB4.lt
    have hd549 := hB11.lt
    have hd550 := hB19.lt
    have hd551 := hB436.lt
    have hd552 := hB532.lt
    refine Sq.call fn48 .plain rfl rfl (tableOf_c _ a _ _ (hnx.ext E) (hac.ext E) hv) ?_
    rintro _ w541 ⟨⟨b543, xs544, rfl, hlo545, hT546, hTab547⟩, e542⟩
    have hs553 := Below.size E
    have hs554 := Below.size e542
    replace E := E.trans e542
    replace hB4 := hB4.ext e542
    replace hB11 := hB11.ext e542
    replace hB19 := hB19.ext e542
    replace hB436 := hB436.ext e542
    replace hB532 := hB532.ext e542
    refine Sq.nil ?_
    refine Eq.goes (fun _ => ⟨hB4, hB11⟩) ?_
    refine Gq.one 3 rfl (by kernel_rfl) ?_
    have hd563 := hB4.lt
    have hd564 := hB11.lt
    have hd565 := hB19.lt
    have hd566 := hB436.lt
    have hd567 := hB532.lt
    have hd568 := hT546.lt
    refine Sq.call fn48 .plain rfl rfl (tableOf_c _ b _ _ (hnx'.ext E) (hac'.ext E) hv') ?_
    rintro _ w556 ⟨⟨b558, xs559, rfl, hlo560, hT561, hTab562⟩, e557⟩
    have hs569 := Below.size E
    have hs570 := Below.size e557
    replace E := E.trans e557
    replace hB4 := hB4.ext e557
    replace hB11 := hB11.ext e557
    replace hB19 := hB19.ext e557
    replace hB436 := hB436.ext e557
    replace hB532 := hB532.ext e557
    replace hT546 := hT546.ext e557
    refine Sq.nil ?_
    refine Eq.goes (fun _ => ⟨hB4, hB11⟩) ?_
    refine Gq.one 6 rfl (by kernel_rfl) ?_
    refine Sq.store one57 .plain rfl rfl rfl hB532 (by simp) (fun w571 g572 hB573 => ?_)
    have hs574 := World.grownBy.size g572
    replace E := E.grown g572 (fun k hk => by injection hk with hk; subst hk; omega)
    replace hB4 := hB4.grown g572 (by intro h; injection h with h; omega)
    replace hB11 := hB11.grown g572 (by intro h; injection h with h; omega)
    replace hB19 := hB19.grown g572 (by intro h; injection h with h; omega)
    replace hB436 := hB436.grown g572 (by intro h; injection h with h; omega)
    replace hT546 := hT546.grown g572 (by intro h; injection h with h; omega)
    replace hT561 := hT561.grown g572 (by intro h; injection h with h; omega)
    replace hB532 := hB573
    refine Sq.nil ?_
    refine Eq.goes (fun _ => ⟨hB4, hB11⟩) ?_
    refine Gq.one 7 rfl (by kernel_rfl) ?_
    refine Sq.store one57 .plain rfl rfl rfl hB436 (by simp) (fun w575 g576 hB577 => ?_)
    have hs578 := World.grownBy.size g576
    replace E := E.grown g576 (fun k hk => by injection hk with hk; subst hk; omega)
    replace hB4 := hB4.grown g576 (by intro h; injection h with h; omega)
    replace hB11 := hB11.grown g576 (by intro h; injection h with h; omega)
    replace hB19 := hB19.grown g576 (by intro h; injection h with h; omega)
    replace hB532 := hB532.grown g576 (by intro h; injection h with h; omega)
    replace hT546 := hT546.grown g576 (by intro h; injection h with h; omega)
    replace hT561 := hT561.grown g576 (by intro h; injection h with h; omega)
    replace hB436 := hB577
    refine Sq.nil ?_
    refine Eq.goes (fun h => absurd h (by decide)) ?_
    refine Gq.done (by kernel_rfl) ?_
    refine Eq.left _ ⟨b529, b433, _, _, _, _, rfl, hB532, hB436, hT546, hT561, hTab547, hTab562, by omega, E, hB4, hB11, hB19⟩ (.cons rfl (.cons rfl (.cons rfl (.cons rfl (.cons rfl (.cons rfl (.cons rfl (.nil))))))))
  rintro ls wc1 ⟨c8, c9, t1, t2, xs, ys0, rfl, hP1, hP2, hT1, hT2, hTab, hTab', hbb, E, hB4, hB11, hB19⟩
  have hs579 := Below.size E
  refine Eq.next ?_
  refine Cq.seq ?_
  refine Cq.region ?_
  refine Sq.loadB one57 .plain rfl rfl hP2 rfl ?_
  refine Sq.len .plain rfl und57 rfl ?_
  refine Sq.alloc1 zero3 rfl .plain rfl (fun b580 w581 e582 hB583 hlo584 => ?_)
  have hd585 := Nat.le_trans (Below.size E) hlo584
  have hd586 := Nat.lt_of_lt_of_le hB4.lt hlo584
  have hd587 := Nat.lt_of_lt_of_le hB11.lt hlo584
  have hd588 := Nat.lt_of_lt_of_le hB19.lt hlo584
  have hd589 := Nat.lt_of_lt_of_le hP1.lt hlo584
  have hd590 := Nat.lt_of_lt_of_le hP2.lt hlo584
  have hd591 := Nat.lt_of_lt_of_le hT1.lt hlo584
  have hd592 := Nat.lt_of_lt_of_le hT2.lt hlo584
  have hs593 := Below.size e582
  replace E := E.trans e582
  replace hB4 := hB4.ext e582
  replace hB11 := hB11.ext e582
  replace hB19 := hB19.ext e582
  replace hP1 := hP1.ext e582
  replace hP2 := hP2.ext e582
  replace hT1 := hT1.ext e582
  replace hT2 := hT2.ext e582
  refine Sq.store one3 .plain rfl rfl rfl hB583 (by simp) (fun w594 g595 hB596 => ?_)
  have hs597 := World.grownBy.size g595
  replace E := E.grown g595 (fun k hk => by injection hk with hk; subst hk; omega)
  replace hB4 := hB4.grown g595 (by intro h; injection h with h; omega)
  replace hB11 := hB11.grown g595 (by intro h; injection h with h; omega)
  replace hB19 := hB19.grown g595 (by intro h; injection h with h; omega)
  replace hP1 := hP1.grown g595 (by intro h; injection h with h; omega)
  replace hP2 := hP2.grown g595 (by intro h; injection h with h; omega)
  replace hT1 := hT1.grown g595 (by intro h; injection h with h; omega)
  replace hT2 := hT2.grown g595 (by intro h; injection h with h; omega)
  replace hB583 := hB596
  refine Sq.nil ?_
  refine Eq.next ?_
  refine Cq.seq ?_
  refine Cq.region ?_
  refine Sq.makeFunc .plain rfl rfl ?_
  refine Sq.assign .plain rfl rfl ?_
  refine Sq.nil ?_
  refine Eq.next ?_
  refine Cq.seq ?_
  refine Cq.drawS 18 (fun w' => Blk w' c8 57 [Value.slice (some ⟨t1, 0, none⟩) a.next.length a.next.length] ∧ Blk w' c9 57 [Value.slice (some ⟨t2, 0, none⟩) b.next.length b.next.length] ∧ Blk w' t1 62 (xs.map (Value.int .i64)) ∧ Blk w' t2 62 (ys0.map (Value.int .i64)) ∧ Blk w' b580 3 [Value.int .i64 (List.length b.next : Int)] ∧ Blk w' b1 26 [Value.int .i64 a.al, nx, ac] ∧ Blk w' b8 26 [Value.int .i64 b.al, nx', ac'] ∧ Blk w' b16 85 [gv] ∧ Ext w0 w') mixed (⟨hP1, hP2, hT1, hT2, hB583, hB4, hB11, hB19, E⟩) (fun w598 e599 hS => ?_)
  clear hS
  have hs600 := Below.size e599
  replace E := E.trans e599
  replace hB4 := hB4.ext e599
  replace hB11 := hB11.ext e599
  replace hB19 := hB19.ext e599
  replace hP1 := hP1.ext e599
  replace hP2 := hP2.ext e599
  replace hT1 := hT1.ext e599
  replace hT2 := hT2.ext e599
  replace hB583 := hB583.ext e599
  refine Gq.st 0 rfl (by kernel_rfl) rfl .plain rfl (fun _ _ _ h => h) ⟨hP1, hP2, hT1, hT2, hB583, hB4, hB11, hB19, E⟩ (fun w' x => Still.loadB one57 rfl x.1 rfl) ?_
  refine Gq.st 1 rfl (by kernel_rfl) rfl .plain rfl (fun _ _ _ h => h) ⟨hP1, hP2, hT1, hT2, hB583, hB4, hB11, hB19, E⟩ (fun w' x => Still.len und57 rfl) ?_
  refine Gq.st 2 rfl (by kernel_rfl) rfl .plain rfl (fun _ _ _ h => h) ⟨hP1, hP2, hT1, hT2, hB583, hB4, hB11, hB19, E⟩ (fun w' x => Still.loadB one3 rfl x.2.2.2.2.1 rfl) ?_
  refine Gq.st 3 rfl (by kernel_rfl) rfl .plain rfl (fun _ _ _ h => h) ⟨hP1, hP2, hT1, hT2, hB583, hB4, hB11, hB19, E⟩ (fun w' x => Still.mul rfl rfl (by omega)) ?_
  refine Gq.st 4 rfl (by kernel_rfl) rfl .plain rfl (fun _ _ _ h => h) ⟨hP1, hP2, hT1, hT2, hB583, hB4, hB11, hB19, E⟩ (fun w' x => Still.move rfl) ?_
  refine Gq.st 5 rfl (by kernel_rfl) rfl .plain rfl (fun _ _ _ h => h) ⟨hP1, hP2, hT1, hT2, hB583, hB4, hB11, hB19, E⟩ (fun w' x => Still.loadB one3 rfl x.2.2.2.2.1 rfl) ?_
  refine Gq.st 6 rfl (by kernel_rfl) rfl .plain rfl (fun _ _ _ h => h) ⟨hP1, hP2, hT1, hT2, hB583, hB4, hB11, hB19, E⟩ (fun w' x => Still.mul rfl rfl (by omega)) ?_
  refine Gq.st 7 rfl (by kernel_rfl) rfl .plain rfl (fun _ _ _ h => h) ⟨hP1, hP2, hT1, hT2, hB583, hB4, hB11, hB19, E⟩ (fun w' x => Still.move rfl) ?_
  refine Gq.st 8 rfl (by kernel_rfl) rfl .plain rfl (fun _ _ _ h => h) ⟨hP1, hP2, hT1, hT2, hB583, hB4, hB11, hB19, E⟩ (fun w' x => Still.add rfl rfl (by omega)) ?_
  refine Gq.st 10 rfl (by kernel_rfl) rfl .plain rfl (fun _ _ _ h => h) ⟨hP1, hP2, hT1, hT2, hB583, hB4, hB11, hB19, E⟩ (fun w' x => Still.fieldAddr fld26_0 rfl) ?_
  refine Gq.st 11 rfl (by kernel_rfl) rfl .plain rfl (fun _ _ _ h => h) ⟨hP1, hP2, hT1, hT2, hB583, hB4, hB11, hB19, E⟩ (fun w' x => Still.loadB one3 rfl x.2.2.2.2.2.1 rfl) ?_
  refine Gq.st 13 rfl (by kernel_rfl) rfl .plain rfl (fun _ _ _ h => h) ⟨hP1, hP2, hT1, hT2, hB583, hB4, hB11, hB19, E⟩ (fun w' x => Still.move rfl) ?_
  refine Gq.st 14 rfl (by kernel_rfl) rfl .plain rfl (fun _ _ _ h => h) ⟨hP1, hP2, hT1, hT2, hB583, hB4, hB11, hB19, E⟩ (fun w' x => Still.makeFunc rfl) ?_
  refine Gq.two 9 12 rfl rfl (by kernel_rfl) ?_ ?_
  · refine Sq.lit sl56 rfl rfl .plain rfl rfl (one_cons rfl one_nil) (fun b601 w602 e603 hlo604 ho605 _ => ?_)
    replace ho605 := ho605 w598.heap.size (Nat.le_refl _)
    have hs607 := Below.size e603
    replace E := E.trans e603
    replace hB4 := hB4.ext e603
    replace hB11 := hB11.ext e603
    replace hB19 := hB19.ext e603
    replace hP1 := hP1.ext e603
    replace hP2 := hP2.ext e603
    replace hT1 := hT1.ext e603
    replace hT2 := hT2.ext e603
    replace hB583 := hB583.ext e603
    refine Sq.nil ?_
    refine Eq.goes (fun _ => ⟨hP1, hP2, hT1, hT2, hB583, hB4, hB11, hB19, E⟩) ?_
    refine Gq.one 12 rfl (by kernel_rfl) ?_
    have hd612 := hB4.lt
    have hd613 := hB11.lt
    have hd614 := hB19.lt
    have hd615 := hP1.lt
    have hd616 := hP2.lt
    have hd617 := hT1.lt
    have hd618 := hT2.lt
    have hd619 := hB583.lt
    refine Sq.call fn50 .plain rfl rfl (lettersOf_c a.al (by omega) _) ?_
    rintro v608 w609 ⟨hl611, e610⟩
    have hs620 := Below.size E
    have hs621 := Below.size e610
    replace E := E.trans e610
    replace hB4 := hB4.ext e610
    replace hB11 := hB11.ext e610
    replace hB19 := hB19.ext e610
    replace hP1 := hP1.ext e610
    replace hP2 := hP2.ext e610
    replace hT1 := hT1.ext e610
    replace hT2 := hT2.ext e610
    replace hB583 := hB583.ext e610
    replace ho605 := ho605.ext e610
    refine Sq.nil ?_
    refine Eq.goes (fun _ => ⟨hP1, hP2, hT1, hT2, hB583, hB4, hB11, hB19, E⟩) ?_
    refine Gq.one 15 rfl (by kernel_rfl) ?_
    have hd624 := hB4.lt
    have hd625 := hB11.lt
    have hd626 := hB19.lt
    have hd627 := hP1.lt
    have hd628 := hP2.lt
    have hd629 := hT1.lt
    have hd630 := hT2.lt
    have hd631 := hB583.lt
    have hlet := letters_len6 a.al
    refine Sq.call fn95 .plain rfl rfl (firstPath_c _ ((List.length a.next : Int) * (List.length b.next : Int)) (a.next.length * b.next.length) (i0 * (List.length b.next : Int) + j0) (letters a.al) _ _ _ _ (fP a b) (fun q => g (accA a (q / (List.length b.next : Int))) (accA b (q % (List.length b.next : Int)))) (fun q => InP a b q) (Int.natCast_mul _ _).symm (Own.row ho605) (Own.row hl611) (by omega) (fun x hx => ⟨(mem_letters hx).1, (mem_letters hx).2.1⟩) (inP_enc (p := (i0, j0)) hp) (fun q hq x hx => fP_in hv hv' hq ⟨(mem_letters hx).1, (mem_letters hx).2.1⟩) (fun q hq => hq) (by omega) ⟨102, _, [Value.pointer (some ⟨c8, 0, none⟩), Value.pointer (some ⟨b580, 0, none⟩), Value.pointer (some ⟨c9, 0, none⟩)], rfl, fn102, fun w q y0 hx hq hxx => fb1_c w q y0 a b _ _ _ _ _ _ _ (hP1.ext hx) (hB583.ext hx) (hP2.ext hx) (hT1.ext hx) (hT2.ext hx) hTab hTab' hv hv' hq hxx⟩ ⟨103, _, [Value.pointer (some ⟨b16, 0, none⟩), Value.pointer (some ⟨b1, 0, none⟩), Value.pointer (some ⟨b580, 0, none⟩), Value.pointer (some ⟨b8, 0, none⟩)], rfl, fn103, fun w q hx hq => fb2_c w q a b _ _ _ _ _ g _ _ _ _ (hB19.ext hx) (hB4.ext hx) (hB583.ext hx) (hB11.ext hx) ((hac.ext E).ext hx) ((hac'.ext E).ext hx) ((BClo.up hgo E).up hx) hv hv' hq⟩) ?_
    rintro _ w622 ⟨rfl, e623⟩
    have hs632 := Below.size E
    have hs633 := Below.size e623
    replace E := E.trans e623
    replace hB4 := hB4.ext e623
    replace hB11 := hB11.ext e623
    replace hB19 := hB19.ext e623
    replace hP1 := hP1.ext e623
    replace hP2 := hP2.ext e623
    replace hT1 := hT1.ext e623
    replace hT2 := hT2.ext e623
    replace hB583 := hB583.ext e623
    refine Sq.nil ?_
    refine Eq.goes (fun _ => ⟨hP1, hP2, hT1, hT2, hB583, hB4, hB11, hB19, E⟩) ?_
    refine Gq.st 16 rfl (by kernel_rfl) rfl .plain rfl (fun _ _ _ h => h) ⟨hP1, hP2, hT1, hT2, hB583, hB4, hB11, hB19, E⟩ (fun w' x => Still.extract rfl rfl) ?_
    refine Gq.st 17 rfl (by kernel_rfl) rfl .plain rfl (fun _ _ _ h => h) ⟨hP1, hP2, hT1, hT2, hB583, hB4, hB11, hB19, E⟩ (fun w' x => Still.extract rfl rfl) ?_
    refine Gq.one 18 rfl (by kernel_rfl) ?_
    refine Sq.assign .plain rfl rfl ?_
    refine Sq.nil ?_
    refine Eq.goes (fun h => absurd h (by decide)) ?_
    refine Gq.one 19 rfl (by kernel_rfl) ?_
    refine Sq.assign .plain rfl rfl ?_
    refine Sq.nil ?_
    refine Eq.goes (fun h => absurd h (by decide)) ?_
    refine Gq.done (by kernel_rfl) ?_
    refine Eq.next ?_
    refine Cq.ret ?_
    refine Eq.ret2 rfl rfl rfl ?_
    rw [← firstAB_enc hv hv' hp]
    exact ⟨rfl, E⟩
  have hd638 := hB4.lt
  have hd639 := hB11.lt
  have hd640 := hB19.lt
  have hd641 := hP1.lt
  have hd642 := hP2.lt
  have hd643 := hT1.lt
  have hd644 := hT2.lt
  have hd645 := hB583.lt
  refine Sq.call fn50 .plain rfl rfl (lettersOf_c a.al (by omega) _) ?_
  rintro v634 w635 ⟨hl637, e636⟩
  have hs646 := Below.size E
  have hs647 := Below.size e636
  replace E := E.trans e636
  replace hB4 := hB4.ext e636
  replace hB11 := hB11.ext e636
  replace hB19 := hB19.ext e636
  replace hP1 := hP1.ext e636
  replace hP2 := hP2.ext e636
  replace hT1 := hT1.ext e636
  replace hT2 := hT2.ext e636
  replace hB583 := hB583.ext e636
  refine Sq.nil ?_
  refine Eq.goes (fun _ => ⟨hP1, hP2, hT1, hT2, hB583, hB4, hB11, hB19, E⟩) ?_
  refine Gq.one 9 rfl (by kernel_rfl) ?_
  refine Sq.lit sl56 rfl rfl .plain rfl rfl (one_cons rfl one_nil) (fun b648 w649 e650 hlo651 ho652 _ => ?_)
  replace ho652 := ho652 w635.heap.size (Nat.le_refl _)
  have hs654 := Below.size e650
  replace E := E.trans e650
  replace hB4 := hB4.ext e650
  replace hB11 := hB11.ext e650
  replace hB19 := hB19.ext e650
  replace hP1 := hP1.ext e650
  replace hP2 := hP2.ext e650
  replace hT1 := hT1.ext e650
  replace hT2 := hT2.ext e650
  replace hB583 := hB583.ext e650
  replace hl637 := hl637.ext e650
  refine Sq.nil ?_
  refine Eq.goes (fun _ => ⟨hP1, hP2, hT1, hT2, hB583, hB4, hB11, hB19, E⟩) ?_
  refine Gq.one 15 rfl (by kernel_rfl) ?_
  have hd657 := hB4.lt
  have hd658 := hB11.lt
  have hd659 := hB19.lt
  have hd660 := hP1.lt
  have hd661 := hP2.lt
  have hd662 := hT1.lt
  have hd663 := hT2.lt
  have hd664 := hB583.lt
  have hlet := letters_len6 a.al
  refine Sq.call fn95 .plain rfl rfl (firstPath_c _ ((List.length a.next : Int) * (List.length b.next : Int)) (a.next.length * b.next.length) (i0 * (List.length b.next : Int) + j0) (letters a.al) _ _ _ _ (fP a b) (fun q => g (accA a (q / (List.length b.next : Int))) (accA b (q % (List.length b.next : Int)))) (fun q => InP a b q) (Int.natCast_mul _ _).symm (Own.row ho652) (Own.row hl637) (by omega) (fun x hx => ⟨(mem_letters hx).1, (mem_letters hx).2.1⟩) (inP_enc (p := (i0, j0)) hp) (fun q hq x hx => fP_in hv hv' hq ⟨(mem_letters hx).1, (mem_letters hx).2.1⟩) (fun q hq => hq) (by omega) ⟨102, _, [Value.pointer (some ⟨c8, 0, none⟩), Value.pointer (some ⟨b580, 0, none⟩), Value.pointer (some ⟨c9, 0, none⟩)], rfl, fn102, fun w q y0 hx hq hxx => fb1_c w q y0 a b _ _ _ _ _ _ _ (hP1.ext hx) (hB583.ext hx) (hP2.ext hx) (hT1.ext hx) (hT2.ext hx) hTab hTab' hv hv' hq hxx⟩ ⟨103, _, [Value.pointer (some ⟨b16, 0, none⟩), Value.pointer (some ⟨b1, 0, none⟩), Value.pointer (some ⟨b580, 0, none⟩), Value.pointer (some ⟨b8, 0, none⟩)], rfl, fn103, fun w q hx hq => fb2_c w q a b _ _ _ _ _ g _ _ _ _ (hB19.ext hx) (hB4.ext hx) (hB583.ext hx) (hB11.ext hx) ((hac.ext E).ext hx) ((hac'.ext E).ext hx) ((BClo.up hgo E).up hx) hv hv' hq⟩) ?_
  rintro _ w655 ⟨rfl, e656⟩
  have hs665 := Below.size E
  have hs666 := Below.size e656
  replace E := E.trans e656
  replace hB4 := hB4.ext e656
  replace hB11 := hB11.ext e656
  replace hB19 := hB19.ext e656
  replace hP1 := hP1.ext e656
  replace hP2 := hP2.ext e656
  replace hT1 := hT1.ext e656
  replace hT2 := hT2.ext e656
  replace hB583 := hB583.ext e656
  refine Sq.nil ?_
  refine Eq.goes (fun _ => ⟨hP1, hP2, hT1, hT2, hB583, hB4, hB11, hB19, E⟩) ?_
  refine Gq.st 16 rfl (by kernel_rfl) rfl .plain rfl (fun _ _ _ h => h) ⟨hP1, hP2, hT1, hT2, hB583, hB4, hB11, hB19, E⟩ (fun w' x => Still.extract rfl rfl) ?_
  refine Gq.st 17 rfl (by kernel_rfl) rfl .plain rfl (fun _ _ _ h => h) ⟨hP1, hP2, hT1, hT2, hB583, hB4, hB11, hB19, E⟩ (fun w' x => Still.extract rfl rfl) ?_
  refine Gq.one 18 rfl (by kernel_rfl) ?_
  refine Sq.assign .plain rfl rfl ?_
  refine Sq.nil ?_
  refine Eq.goes (fun h => absurd h (by decide)) ?_
  refine Gq.one 19 rfl (by kernel_rfl) ?_
  refine Sq.assign .plain rfl rfl ?_
  refine Sq.nil ?_
  refine Eq.goes (fun h => absurd h (by decide)) ?_
  refine Gq.done (by kernel_rfl) ?_
  refine Eq.next ?_
  refine Cq.ret ?_
  refine Eq.ret2 rfl rfl rfl ?_
  rw [← firstAB_enc hv hv' hp]
  exact ⟨rfl, E⟩
end Go.Proofs.Ytdejmfkpohgamaa
set_option linter.unusedSimpArgs false
set_option linter.unusedVariables false
namespace Go.Proofs.Ytdejmfkpohgamaa
open Go.RowKit
set_option maxRecDepth 100000 in
theorem fAcc_c (w0 : World) (a : A) (nx ac : Value) (hnx : Rows w0 56 3 nx a.next) (hac : Bools w0 4 ac a.acc) : Ret Try.prog 23 #[Value.agg #[Value.int .i64 a.al, nx, ac]] w0 (fun v w => v = resW (fAcc a) ∧ Ext w0 w) := by
  have E := Ext.refl w0
  refine Ret.of (args := [Value.agg #[Value.int .i64 a.al, nx, ac]]) Try.func23 rfl rfl rfl ?_
  rintro _ rfl
  show Cq _ _ _ _ [(0, Value.agg #[Value.int .i64 a.al, nx, ac])] _
  refine Cq.seq ?_
  refine Cq.region ?_
  refine Sq.box .plain rfl rfl (fun b1 w2 e3 hB4 hlo5 => ?_)
  have hd6 := Nat.le_trans (Below.size E) hlo5
  have hs7 := Below.size e3
  replace E := E.trans e3
  refine Sq.assign .plain rfl rfl ?_
  refine Sq.assign .plain rfl rfl ?_
  refine Sq.nil ?_
  refine Eq.next ?_
  refine Cq.seq ?_
  refine Cq.seq ?_
  refine Cq.region ?_
  refine Sq.loadAgg agg26 .plain rfl rfl hB4 rfl ?_
  have hd11 := hB4.lt
  refine Sq.call fn22 .plain rfl rfl (valid_c _ a _ _ (hnx.ext E) (hac.ext E)) ?_
  rintro _ w9 ⟨rfl, e10⟩
  have hs12 := Below.size E
  have hs13 := Below.size e10
  replace E := E.trans e10
  replace hB4 := hB4.ext e10
  refine Sq.partB (fun hv => ?_) (fun hv => ?_)
  · refine Sq.notT .plain rfl rfl ?_
    refine Sq.nil ?_
    refine Eq.next ?_
    refine Cq.els rfl ?_
    refine Cq.skip ?_
    refine Eq.next ?_
    refine Cq.seq ?_
    refine Cq.region ?_
    refine Sq.loadAgg agg26 .plain rfl rfl hB4 rfl ?_
    refine Sq.makeFunc .plain rfl rfl ?_
    have hd17 := hB4.lt
    refine Sq.call fn63 .plain rfl rfl (firstFrom_c _ a _ _ (hnx.ext E) (hac.ext E) hv _ (accA a) ⟨64, _, [Value.pointer (some ⟨b1, 0, none⟩)], rfl, fn64, fun w q hx hq => (fa1_c w q a _ _ _ (hB4.ext hx) ((hac.ext E).ext hx) (by have := (validA_spec.1 hv).2; omega)).mono fun v w' h => ⟨h.1, h.2 ▸ Ext.refl w⟩⟩) ?_
    rintro _ w15 ⟨rfl, e16⟩
    have hs18 := Below.size E
    have hs19 := Below.size e16
    replace E := E.trans e16
    refine Sq.extract .plain rfl rfl rfl ?_
    refine Sq.extract .plain rfl rfl rfl ?_
    refine Sq.assign .plain rfl rfl ?_
    refine Sq.assign .plain rfl rfl ?_
    refine Sq.nil ?_
    refine Eq.next ?_
    refine Cq.ret ?_
    refine Eq.ret2 rfl rfl rfl ?_
    exact ⟨by rw [fAcc, if_pos hv]; rfl, E⟩
  refine Sq.notF .plain rfl rfl ?_
  refine Sq.nil ?_
  refine Eq.next ?_
  refine Cq.thn rfl ?_
  refine Cq.seq ?_
  refine Cq.region ?_
  refine Sq.assign .plain rfl rfl ?_
  refine Sq.assign .plain rfl rfl ?_
  refine Sq.nil ?_
  refine Eq.next ?_
  refine Cq.ret ?_
  refine Eq.pastRet ?_
  refine Eq.ret2 rfl rfl rfl ?_
  exact ⟨by rw [fAcc, if_neg (by rw [hv]; decide)]; rfl, E⟩
set_option maxRecDepth 100000 in
theorem cmp_c (w0 : World) (a b : A) (nx ac nx' ac' : Value) (hnx : Rows w0 56 3 nx a.next) (hac : Bools w0 4 ac a.acc) (hnx' : Rows w0 56 3 nx' b.next) (hac' : Bools w0 4 ac' b.acc) : Ret Try.prog 74 #[Value.agg #[Value.int .i64 a.al, nx, ac], Value.agg #[Value.int .i64 b.al, nx', ac']] w0 (fun v w => v = .bool (cmp2 a b) ∧ Ext w0 w) := by
  have E := Ext.refl w0
  refine Ret.of (args := [Value.agg #[Value.int .i64 a.al, nx, ac], Value.agg #[Value.int .i64 b.al, nx', ac']]) Try.func74 rfl rfl rfl ?_
  rintro _ rfl
  show Cq _ _ _ _ [(0, Value.agg #[Value.int .i64 a.al, nx, ac]), (1, Value.agg #[Value.int .i64 b.al, nx', ac'])] _
  refine Cq.seq ?_
  refine Cq.region ?_
  refine Sq.box .plain rfl rfl (fun b1 w2 e3 hB4 hlo5 => ?_)
  have hd6 := Nat.le_trans (Below.size E) hlo5
  have hs7 := Below.size e3
  replace E := E.trans e3
  refine Sq.box .plain rfl rfl (fun b8 w9 e10 hB11 hlo12 => ?_)
  have hd13 := Nat.le_trans (Below.size E) hlo12
  have hd14 := Nat.lt_of_lt_of_le hB4.lt hlo12
  have hs15 := Below.size e10
  replace E := E.trans e10
  replace hB4 := hB4.ext e10
  refine Sq.assign .plain rfl rfl ?_
  refine Sq.nil ?_
  refine Eq.next ?_
  refine Cq.seq ?_
  refine Cq.region ?_
  refine Sq.loadAgg agg26 .plain rfl rfl hB4 rfl ?_
  have hd19 := hB4.lt
  have hd20 := hB11.lt
  refine Sq.call fn22 .plain rfl rfl (valid_c _ a _ _ (hnx.ext E) (hac.ext E)) ?_
  rintro _ w17 ⟨rfl, e18⟩
  have hs21 := Below.size E
  have hs22 := Below.size e18
  replace E := E.trans e18
  replace hB4 := hB4.ext e18
  replace hB11 := hB11.ext e18
  refine Sq.partB (fun hva => ?_) (fun hva => ?_)
  · refine Sq.move .plain rfl rfl ?_
    refine Sq.loadAgg agg26 (.met rfl rfl rfl) rfl rfl hB11 rfl ?_
    have hd26 := hB4.lt
    have hd27 := hB11.lt
    refine Sq.call fn22 (.met rfl rfl rfl) rfl rfl (valid_c _ b _ _ (hnx'.ext E) (hac'.ext E)) ?_
    rintro _ w24 ⟨rfl, e25⟩
    have hs28 := Below.size E
    have hs29 := Below.size e25
    replace E := E.trans e25
    replace hB4 := hB4.ext e25
    replace hB11 := hB11.ext e25
    refine Sq.partB (fun hvb => ?_) (fun hvb => ?_)
    · refine Sq.pickT .plain rfl rfl rfl ?_
      refine Sq.move .plain rfl rfl ?_
      refine Sq.fieldAddr fld26_0 (.met rfl rfl rfl) rfl rfl ?_
      refine Sq.loadB one3 (.met rfl rfl rfl) rfl rfl hB4 rfl ?_
      refine Sq.fieldAddr fld26_0 (.met rfl rfl rfl) rfl rfl ?_
      refine Sq.loadB one3 (.met rfl rfl rfl) rfl rfl hB11 rfl ?_
      refine Sq.eql (.met rfl rfl rfl) rfl rfl rfl ?_
      refine Sq.pickT .plain rfl rfl rfl ?_
      refine Sq.assign .plain rfl rfl ?_
      refine Sq.nil ?_
      refine Eq.next ?_
      refine Cq.ret ?_
      refine Eq.ret1 rfl rfl ?_
      exact ⟨by simp [cmp2, hva, hvb], E⟩
    refine Sq.pickT .plain rfl rfl rfl ?_
    refine Sq.move .plain rfl rfl ?_
    refine Sq.off rfl rfl rfl rfl rfl rfl ?_
    refine Sq.off rfl rfl rfl rfl rfl rfl ?_
    refine Sq.off rfl rfl rfl rfl rfl rfl ?_
    refine Sq.off rfl rfl rfl rfl rfl rfl ?_
    refine Sq.off rfl rfl rfl rfl rfl rfl ?_
    refine Sq.pickF .plain rfl rfl rfl ?_
    refine Sq.assign .plain rfl rfl ?_
    refine Sq.nil ?_
    refine Eq.next ?_
    refine Cq.ret ?_
    refine Eq.ret1 rfl rfl ?_
    exact ⟨by simp [cmp2, hva, hvb], E⟩
  refine Sq.move .plain rfl rfl ?_
  refine Sq.off rfl rfl rfl rfl rfl rfl ?_
  refine Sq.off rfl rfl rfl rfl rfl rfl ?_
  refine Sq.pickF .plain rfl rfl rfl ?_
  refine Sq.move .plain rfl rfl ?_
  refine Sq.off rfl rfl rfl rfl rfl rfl ?_
  refine Sq.off rfl rfl rfl rfl rfl rfl ?_
  refine Sq.off rfl rfl rfl rfl rfl rfl ?_
  refine Sq.off rfl rfl rfl rfl rfl rfl ?_
  refine Sq.off rfl rfl rfl rfl rfl rfl ?_
  refine Sq.pickF .plain rfl rfl rfl ?_
  refine Sq.assign .plain rfl rfl ?_
  refine Sq.nil ?_
  refine Eq.next ?_
  refine Cq.ret ?_
  refine Eq.ret1 rfl rfl ?_
  exact ⟨by simp [cmp2, hva], E⟩
set_option maxRecDepth 100000 in
theorem fOut_c (w0 : World) (a b : A) (nx ac nx' ac' : Value) (hnx : Rows w0 56 3 nx a.next) (hac : Bools w0 4 ac a.acc) (hnx' : Rows w0 56 3 nx' b.next) (hac' : Bools w0 4 ac' b.acc) : Ret Try.prog 34 #[Value.agg #[Value.int .i64 a.al, nx, ac], Value.agg #[Value.int .i64 b.al, nx', ac']] w0 (fun v w => v = resW (fOut a b) ∧ Ext w0 w) := by
  have E := Ext.refl w0
  refine Ret.of (args := [Value.agg #[Value.int .i64 a.al, nx, ac], Value.agg #[Value.int .i64 b.al, nx', ac']]) Try.func34 rfl rfl rfl ?_
  rintro _ rfl
  show Cq _ _ _ _ [(0, Value.agg #[Value.int .i64 a.al, nx, ac]), (1, Value.agg #[Value.int .i64 b.al, nx', ac'])] _
  refine Cq.seq ?_
  refine Cq.region ?_
  refine Sq.box .plain rfl rfl (fun b1 w2 e3 hB4 hlo5 => ?_)
  have hd6 := Nat.le_trans (Below.size E) hlo5
  have hs7 := Below.size e3
  replace E := E.trans e3
  refine Sq.box .plain rfl rfl (fun b8 w9 e10 hB11 hlo12 => ?_)
  have hd13 := Nat.le_trans (Below.size E) hlo12
  have hd14 := Nat.lt_of_lt_of_le hB4.lt hlo12
  have hs15 := Below.size e10
  replace E := E.trans e10
  replace hB4 := hB4.ext e10
  refine Sq.assign .plain rfl rfl ?_
  refine Sq.assign .plain rfl rfl ?_
  refine Sq.nil ?_
  refine Eq.next ?_
  refine Cq.seq ?_
  refine Cq.seq ?_
  refine Cq.region ?_
  refine Sq.loadAgg agg26 .plain rfl rfl hB4 rfl ?_
  refine Sq.loadAgg agg26 .plain rfl rfl hB11 rfl ?_
  have hd19 := hB4.lt
  have hd20 := hB11.lt
  refine Sq.call fn74 .plain rfl rfl (cmp_c _ a b _ _ _ _ (hnx.ext E) (hac.ext E) (hnx'.ext E) (hac'.ext E)) ?_
  rintro _ w17 ⟨rfl, e18⟩
  have hs21 := Below.size E
  have hs22 := Below.size e18
  replace E := E.trans e18
  replace hB4 := hB4.ext e18
  replace hB11 := hB11.ext e18
  refine Sq.partB (fun hC => ?_) (fun hC => ?_)
  · refine Sq.notT .plain rfl rfl ?_
    refine Sq.nil ?_
    refine Eq.next ?_
    refine Cq.els rfl ?_
    refine Cq.skip ?_
    refine Eq.next ?_
    refine Cq.seq ?_
    refine Cq.region ?_
    refine Sq.loadAgg agg26 .plain rfl rfl hB4 rfl ?_
    refine Sq.loadAgg agg26 .plain rfl rfl hB11 rfl ?_
    have hd26 := hB4.lt
    have hd27 := hB11.lt
    refine Sq.call fn77 .plain rfl rfl (firstOfBoth_c _ a b _ _ _ _ (hnx.ext E) (hac.ext E) (hnx'.ext E) (hac'.ext E) _ (fun x y => x && !y) ⟨78, _, [], rfl, fn78, fun w x y hx => (fo1_c w x y).mono fun v w' h => ⟨h.1, h.2 ▸ Ext.refl w⟩⟩ 0 0 (cmp2_spec.1 hC).1 (cmp2_spec.1 hC).2.1 (in_zero (cmp2_spec.1 hC).1 (cmp2_spec.1 hC).2.1)) ?_
    rintro _ w24 ⟨rfl, e25⟩
    have hs28 := Below.size E
    have hs29 := Below.size e25
    replace E := E.trans e25
    refine Sq.extract .plain rfl rfl rfl ?_
    refine Sq.extract .plain rfl rfl rfl ?_
    refine Sq.assign .plain rfl rfl ?_
    refine Sq.assign .plain rfl rfl ?_
    refine Sq.nil ?_
    refine Eq.next ?_
    refine Cq.ret ?_
    refine Eq.ret2 rfl rfl rfl ?_
    exact ⟨by rw [fOut, fTwo, if_pos hC]; rfl, E⟩
  refine Sq.notF .plain rfl rfl ?_
  refine Sq.nil ?_
  refine Eq.next ?_
  refine Cq.thn rfl ?_
  refine Cq.seq ?_
  refine Cq.region ?_
  refine Sq.assign .plain rfl rfl ?_
  refine Sq.assign .plain rfl rfl ?_
  refine Sq.nil ?_
  refine Eq.next ?_
  refine Cq.ret ?_
  refine Eq.pastRet ?_
  refine Eq.ret2 rfl rfl rfl ?_
  exact ⟨by rw [fOut, fTwo, if_neg (by rw [hC]; decide)]; rfl, E⟩
set_option maxRecDepth 100000 in
theorem within2_c (w0 : World) (a b : A) (nx ac nx' ac' : Value) (hnx : Rows w0 56 3 nx a.next) (hac : Bools w0 4 ac a.acc) (hnx' : Rows w0 56 3 nx' b.next) (hac' : Bools w0 4 ac' b.acc) : Ret Try.prog 31 #[Value.agg #[Value.int .i64 a.al, nx, ac], Value.agg #[Value.int .i64 b.al, nx', ac']] w0 (fun v w => v = .bool (withinL a b) ∧ Ext w0 w) := by
  have E := Ext.refl w0
  refine Ret.of (args := [Value.agg #[Value.int .i64 a.al, nx, ac], Value.agg #[Value.int .i64 b.al, nx', ac']]) Try.func31 rfl rfl rfl ?_
  rintro _ rfl
  show Cq _ _ _ _ [(0, Value.agg #[Value.int .i64 a.al, nx, ac]), (1, Value.agg #[Value.int .i64 b.al, nx', ac'])] _
  refine Cq.seq ?_
  refine Cq.region ?_
  refine Sq.box .plain rfl rfl (fun b1 w2 e3 hB4 hlo5 => ?_)
  have hd6 := Nat.le_trans (Below.size E) hlo5
  have hs7 := Below.size e3
  replace E := E.trans e3
  refine Sq.box .plain rfl rfl (fun b8 w9 e10 hB11 hlo12 => ?_)
  have hd13 := Nat.le_trans (Below.size E) hlo12
  have hd14 := Nat.lt_of_lt_of_le hB4.lt hlo12
  have hs15 := Below.size e10
  replace E := E.trans e10
  replace hB4 := hB4.ext e10
  refine Sq.assign .plain rfl rfl ?_
  refine Sq.nil ?_
  refine Eq.next ?_
  refine Cq.seq ?_
  refine Cq.region ?_
  refine Sq.loadAgg agg26 .plain rfl rfl hB4 rfl ?_
  refine Sq.loadAgg agg26 .plain rfl rfl hB11 rfl ?_
  have hd19 := hB4.lt
  have hd20 := hB11.lt
  refine Sq.call fn34 .plain rfl rfl (fOut_c _ a b _ _ _ _ (hnx.ext E) (hac.ext E) (hnx'.ext E) (hac'.ext E)) ?_
  rintro _ w17 ⟨rfl, e18⟩
  have hs21 := Below.size E
  have hs22 := Below.size e18
  replace E := E.trans e18
  replace hB4 := hB4.ext e18
  replace hB11 := hB11.ext e18
  refine Sq.move .plain rfl rfl ?_
  refine Sq.extract .plain rfl rfl rfl ?_
  refine Sq.extract .plain rfl rfl rfl ?_
  refine Sq.assign .plain rfl rfl ?_
  refine Sq.assign .plain rfl rfl ?_
  refine Sq.nil ?_
  refine Eq.next ?_
  refine Cq.seq ?_
  refine Cq.region ?_
  refine Sq.loadAgg agg26 .plain rfl rfl hB4 rfl ?_
  refine Sq.loadAgg agg26 .plain rfl rfl hB11 rfl ?_
  have hd26 := hB4.lt
  have hd27 := hB11.lt
  refine Sq.call fn74 .plain rfl rfl (cmp_c _ a b _ _ _ _ (hnx.ext E) (hac.ext E) (hnx'.ext E) (hac'.ext E)) ?_
  rintro _ w24 ⟨rfl, e25⟩
  have hs28 := Below.size E
  have hs29 := Below.size e25
  replace E := E.trans e25
  refine Sq.partB (fun hC => ?_) (fun hC => ?_)
  · refine Sq.move .plain rfl rfl ?_
    refine Sq.move (.met rfl rfl rfl) rfl rfl ?_
    refine Sq.not (.met rfl rfl rfl) rfl rfl ?_
    refine Sq.pickT .plain rfl rfl rfl ?_
    refine Sq.assign .plain rfl rfl ?_
    refine Sq.nil ?_
    refine Eq.next ?_
    refine Cq.ret ?_
    refine Eq.ret1 rfl rfl ?_
    exact ⟨by simp [withinL, hC], E⟩
  refine Sq.move .plain rfl rfl ?_
  refine Sq.off rfl rfl rfl rfl rfl rfl ?_
  refine Sq.off rfl rfl rfl rfl rfl rfl ?_
  refine Sq.pickF .plain rfl rfl rfl ?_
  refine Sq.assign .plain rfl rfl ?_
  refine Sq.nil ?_
  refine Eq.next ?_
  refine Cq.ret ?_
  refine Eq.ret1 rfl rfl ?_
  exact ⟨by simp [withinL, hC], E⟩
end Go.Proofs.Ytdejmfkpohgamaa
