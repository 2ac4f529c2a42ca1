/-
  The texts of this proof, joined (wip/merge.py): the calculus of slots, plain mathematics, walks.
-/
import Derived.Test.YtdkdpmmfebdeaaaGc3
set_option linter.unusedSimpArgs false
set_option linter.unusedVariables false
namespace Go.Proofs.Ytdkdpmmfebdeaaa
open Go.RowKit
set_option maxHeartbeats 1000000 in
set_option maxRecDepth 100000 in
theorem prod_c (w0 : World) (a b : A) (nx ac nx' ac' : Value) (hnx : Rows w0 52 3 nx a.next) (hac : Bools w0 4 ac a.acc) (hnx' : Rows w0 52 3 nx' b.next) (hac' : Bools w0 4 ac' b.acc) (k : Int) : Ret Try.prog 21 #[Value.agg #[Value.int .i64 a.al, nx, ac], Value.agg #[Value.int .i64 b.al, nx', ac'], Value.int .i64 k] w0 (fun v w => (∃ u, v = .tuple #[u, .bool (prodOk a b k)] ∧ OwnA w w0.heap.size u (if prodOk a b k then prodA a b k else zeroA)) ∧ Ext w0 w) := by
  have E := Ext.refl w0
  refine Ret.of (args := [Value.agg #[Value.int .i64 a.al, nx, ac], Value.agg #[Value.int .i64 b.al, nx', ac'], Value.int .i64 k]) Try.func21 rfl rfl rfl ?_
  rintro _ rfl
  show Cq _ _ _ _ [(0, Value.agg #[Value.int .i64 a.al, nx, ac]), (1, Value.agg #[Value.int .i64 b.al, nx', ac']), (2, Value.int .i64 k)] _
  refine Cq.seq ?_
  refine Cq.region ?_
  refine Sq.box .plain rfl rfl (fun b1 w2 e3 hB4 hlo5 => ?_)
  have hd6 := Nat.le_trans (Below.size E) hlo5
  have hs7 := Below.size e3
  replace E := E.trans e3
  refine Sq.box .plain rfl rfl (fun b8 w9 e10 hB11 hlo12 => ?_)
  have hd13 := Nat.le_trans (Below.size E) hlo12
  have hd14 := Nat.lt_of_lt_of_le hB4.lt hlo12
  have hs15 := Below.size e10
  replace E := E.trans e10
  replace hB4 := hB4.ext e10
  refine Sq.alloc zero27 .plain rfl (fun b16 w17 e18 hB19 hlo20 => ?_)
  have hd21 := Nat.le_trans (Below.size E) hlo20
  have hd22 := Nat.lt_of_lt_of_le hB4.lt hlo20
  have hd23 := Nat.lt_of_lt_of_le hB11.lt hlo20
  have hs24 := Below.size e18
  replace E := E.trans e18
  replace hB4 := hB4.ext e18
  replace hB11 := hB11.ext e18
  refine Sq.assign .plain rfl rfl ?_
  refine Sq.nil ?_
  refine Eq.next ?_
  refine Cq.seq ?_
  refine Cq.seq ?_
  refine Cq.region ?_
  refine Sq.loadAgg agg27 .plain rfl rfl hB4 rfl ?_
  have hd28 := hB4.lt
  have hd29 := hB11.lt
  have hd30 := hB19.lt
  refine Sq.call fn44 .plain rfl rfl (valid_c _ a _ _ (hnx.ext E) (hac.ext E)) ?_
  rintro _ w26 ⟨rfl, e27⟩
  have hs31 := Below.size E
  have hs32 := Below.size e27
  replace E := E.trans e27
  replace hB4 := hB4.ext e27
  replace hB11 := hB11.ext e27
  replace hB19 := hB19.ext e27
  refine Sq.partB (fun hv => ?_) (fun hv => ?_)
  · refine Sq.notT .plain rfl rfl ?_
    refine Sq.move .plain rfl rfl ?_
    refine Sq.loadAgg agg27 (.met rfl rfl rfl) rfl rfl hB11 rfl ?_
    have hd36 := hB4.lt
    have hd37 := hB11.lt
    have hd38 := hB19.lt
    refine Sq.call fn44 (.met rfl rfl rfl) rfl rfl (valid_c _ b _ _ (hnx'.ext E) (hac'.ext E)) ?_
    rintro _ w34 ⟨rfl, e35⟩
    have hs39 := Below.size E
    have hs40 := Below.size e35
    replace E := E.trans e35
    replace hB4 := hB4.ext e35
    replace hB11 := hB11.ext e35
    replace hB19 := hB19.ext e35
    refine Sq.partB (fun hv' => ?_) (fun hv' => ?_)
    · refine Sq.notT (.met rfl rfl rfl) rfl rfl ?_
      refine Sq.pickF .plain rfl rfl rfl ?_
      refine Sq.move .plain rfl rfl ?_
      refine Sq.move (.met rfl rfl rfl) rfl rfl ?_
      refine Sq.lss (.met rfl rfl rfl) rfl rfl rfl ?_
      refine Sq.part (fun hka => ?_) (fun hka => ?_)
      · refine Sq.pickF .plain rfl rfl rfl ?_
        refine Sq.move .plain rfl rfl ?_
        refine Sq.off rfl rfl rfl rfl rfl rfl ?_
        refine Sq.off rfl rfl rfl rfl rfl rfl ?_
        refine Sq.pickT .plain rfl rfl rfl ?_
        refine Sq.nil ?_
        refine Eq.next ?_
        refine Cq.thn rfl ?_
        refine Cq.seq ?_
        refine Cq.region ?_
        refine Sq.build st27 rfl rfl .plain rfl rfl one_nil rfl ?_
        refine Sq.storeAgg agg27 .plain rfl rfl (one_cons rfl (one_cons rfl (one_cons rfl one_nil))) hB19 rfl rfl (fun w41 g42 hB43 => ?_)
        have hs44 := World.grownBy.size g42
        replace E := E.grown g42 (fun k hk => by injection hk with hk; subst hk; omega)
        replace hB19 := hB43
        refine Sq.assign .plain rfl rfl ?_
        refine Sq.nil ?_
        refine Eq.next ?_
        refine Cq.ret ?_
        refine Eq.pastRet ?_
        refine Eq.retCell2 rfl rfl agg27 hB19 rfl rfl ?_
        have hno : prodOk a b k = false := prodOk_no (.inr (.inr (by omega)))
        exact ⟨⟨_, by rw [hno], by rw [if_neg (by rw [hno]; decide)]; exact ⟨_, _, rfl, OwnRows.nil _ _ _ _ _, Own.nil _ _ _⟩⟩, E⟩
      refine Sq.pickF .plain rfl rfl rfl ?_
      refine Sq.move .plain rfl rfl ?_
      refine Sq.move (.met rfl rfl rfl) rfl rfl ?_
      refine Sq.gtr (.met rfl rfl rfl) rfl rfl rfl ?_
      refine Sq.part (fun hkb => ?_) (fun hkb => ?_)
      · refine Sq.pickF .plain rfl rfl rfl ?_
        refine Sq.nil ?_
        refine Eq.next ?_
        refine Cq.thn rfl ?_
        refine Cq.seq ?_
        refine Cq.region ?_
        refine Sq.build st27 rfl rfl .plain rfl rfl one_nil rfl ?_
        refine Sq.storeAgg agg27 .plain rfl rfl (one_cons rfl (one_cons rfl (one_cons rfl one_nil))) hB19 rfl rfl (fun w45 g46 hB47 => ?_)
        have hs48 := World.grownBy.size g46
        replace E := E.grown g46 (fun k hk => by injection hk with hk; subst hk; omega)
        replace hB19 := hB47
        refine Sq.assign .plain rfl rfl ?_
        refine Sq.nil ?_
        refine Eq.next ?_
        refine Cq.ret ?_
        refine Eq.pastRet ?_
        refine Eq.retCell2 rfl rfl agg27 hB19 rfl rfl ?_
        have hno : prodOk a b k = false := prodOk_no (.inr (.inr (by omega)))
        exact ⟨⟨_, by rw [hno], by rw [if_neg (by rw [hno]; decide)]; exact ⟨_, _, rfl, OwnRows.nil _ _ _ _ _, Own.nil _ _ _⟩⟩, E⟩
      refine Sq.pickF .plain rfl rfl rfl ?_
      refine Sq.nil ?_
      refine Eq.next ?_
      refine Cq.els rfl ?_
      refine Cq.skip ?_
      refine Eq.next ?_
      refine Cq.seq ?_
      refine Cq.cut (fun ls w => ∃ (c8 : Nat), ∃ (c9 : Nat), ∃ (t1 : Nat), ∃ (t2 : Nat), ∃ (xs : List Int), ∃ (ys0 : List Int), ls = [(2, Value.int .i64 k), (3, Value.pointer (some ⟨b1, 0, none⟩)), (4, Value.pointer (some ⟨b8, 0, none⟩)), (6, Value.pointer (some ⟨b16, 0, none⟩)), (7, Value.bool false), (8, Value.pointer (some ⟨c8, 0, none⟩)), (9, Value.pointer (some ⟨c9, 0, none⟩))] ∧ Blk w c8 60 [Value.slice (some ⟨t1, 0, none⟩) a.next.length a.next.length] ∧ Blk w c9 60 [Value.slice (some ⟨t2, 0, none⟩) b.next.length b.next.length] ∧ Blk w t1 64 (xs.map (Value.int .i64)) ∧ Blk w t2 64 (ys0.map (Value.int .i64)) ∧ Tab a xs ∧ Tab b ys0 ∧ (b1 < c8 ∧ b1 < c9 ∧ b1 < t1 ∧ b1 < t2 ∧ b8 < c8 ∧ b8 < c9 ∧ b8 < t1 ∧ b8 < t2 ∧ b16 < c8 ∧ b16 < c9 ∧ b16 < t1 ∧ b16 < t2) ∧ Ext w0 w ∧ Blk w b1 27 [Value.int .i64 a.al, nx, ac] ∧ Blk w b8 27 [Value.int .i64 b.al, nx', ac'] ∧ Blk w b16 27 [Value.int .i64 0, Value.slice none 0 0, Value.slice none 0 0]) ?_ ?_
      · refine Cq.drawS 7 (fun w' => Blk w' b1 27 [Value.int .i64 a.al, nx, ac] ∧ Blk w' b8 27 [Value.int .i64 b.al, nx', ac']) mixed (⟨hB4, hB11⟩) (fun w49 e50 hS => ?_)
        clear hS
        have hs51 := Below.size e50
        replace E := E.trans e50
        replace hB4 := hB4.ext e50
        replace hB11 := hB11.ext e50
        replace hB19 := hB19.ext e50
        refine Gq.st 0 rfl (by kernel_rfl) rfl .plain rfl (fun _ _ _ h => h) ⟨hB4, hB11⟩ (fun w' x => Still.loadAgg agg27 rfl x.1 rfl) ?_
        refine Gq.st 2 rfl (by kernel_rfl) rfl .plain rfl (fun _ _ _ h => h) ⟨hB4, hB11⟩ (fun w' x => Still.loadAgg agg27 rfl x.2 rfl) ?_
        refine Gq.three 1 4 5 rfl rfl rfl (by kernel_rfl) ?_ ?_ ?_
        · have hd60 := hB4.lt
          have hd61 := hB11.lt
          have hd62 := hB19.lt
          refine Sq.call fn56 .plain rfl rfl (tableOf_c _ a _ _ (hnx.ext E) (hac.ext E) hv) ?_
          rintro _ w53 ⟨⟨b55, xs56, rfl, hlo57, hT58, hTab59⟩, e54⟩
          have hs63 := Below.size E
          have hs64 := Below.size e54
          replace E := E.trans e54
          replace hB4 := hB4.ext e54
          replace hB11 := hB11.ext e54
          replace hB19 := hB19.ext e54
          refine Sq.nil ?_
          refine Eq.goes (fun _ => ⟨hB4, hB11⟩) ?_
          refine Gq.three 3 4 5 rfl rfl rfl (by kernel_rfl) ?_ ?_ ?_
          · have hd73 := hB4.lt
            have hd74 := hB11.lt
            have hd75 := hB19.lt
            have hd76 := hT58.lt
            refine Sq.call fn56 .plain rfl rfl (tableOf_c _ b _ _ (hnx'.ext E) (hac'.ext E) hv') ?_
            rintro _ w66 ⟨⟨b68, xs69, rfl, hlo70, hT71, hTab72⟩, e67⟩
            have hs77 := Below.size E
            have hs78 := Below.size e67
            replace E := E.trans e67
            replace hB4 := hB4.ext e67
            replace hB11 := hB11.ext e67
            replace hB19 := hB19.ext e67
            replace hT58 := hT58.ext e67
            refine Sq.nil ?_
            refine Eq.goes (fun _ => ⟨hB4, hB11⟩) ?_
            refine Gq.two 4 5 rfl rfl (by kernel_rfl) ?_ ?_
            · refine Sq.alloc1 zero60 rfl .plain rfl (fun b79 w80 e81 hB82 hlo83 => ?_)
              have hd84 := Nat.le_trans (Below.size E) hlo83
              have hd85 := Nat.lt_of_lt_of_le hB4.lt hlo83
              have hd86 := Nat.lt_of_lt_of_le hB11.lt hlo83
              have hd87 := Nat.lt_of_lt_of_le hB19.lt hlo83
              have hd88 := Nat.lt_of_lt_of_le hT58.lt hlo83
              have hd89 := Nat.lt_of_lt_of_le hT71.lt hlo83
              have hs90 := Below.size e81
              replace E := E.trans e81
              replace hB4 := hB4.ext e81
              replace hB11 := hB11.ext e81
              replace hB19 := hB19.ext e81
              replace hT58 := hT58.ext e81
              replace hT71 := hT71.ext e81
              refine Sq.nil ?_
              refine Eq.goes (fun _ => ⟨hB4, hB11⟩) ?_
              refine Gq.one 5 rfl (by kernel_rfl) ?_
              refine Sq.alloc1 zero60 rfl .plain rfl (fun b91 w92 e93 hB94 hlo95 => ?_)
              have hd96 := Nat.le_trans (Below.size E) hlo95
              have hd97 := Nat.lt_of_lt_of_le hB4.lt hlo95
              have hd98 := Nat.lt_of_lt_of_le hB11.lt hlo95
              have hd99 := Nat.lt_of_lt_of_le hB19.lt hlo95
              have hd100 := Nat.lt_of_lt_of_le hT58.lt hlo95
              have hd101 := Nat.lt_of_lt_of_le hT71.lt hlo95
              have hd102 := Nat.lt_of_lt_of_le hB82.lt hlo95
              have hs103 := Below.size e93
              replace E := E.trans e93
              replace hB4 := hB4.ext e93
              replace hB11 := hB11.ext e93
              replace hB19 := hB19.ext e93
              replace hT58 := hT58.ext e93
              replace hT71 := hT71.ext e93
              replace hB82 := hB82.ext e93
              refine Sq.nil ?_
              refine Eq.goes (fun _ => ⟨hB4, hB11⟩) ?_
              refine Gq.one 6 rfl (by kernel_rfl) ?_
              refine Sq.store one60 .plain rfl rfl rfl hB82 (by simp) (fun w104 g105 hB106 => ?_)
              have hs107 := World.grownBy.size g105
              replace E := E.grown g105 (fun k hk => by injection hk with hk; subst hk; omega)
              replace hB4 := hB4.grown g105 (by intro h; injection h with h; omega)
              replace hB11 := hB11.grown g105 (by intro h; injection h with h; omega)
              replace hB19 := hB19.grown g105 (by intro h; injection h with h; omega)
              replace hT58 := hT58.grown g105 (by intro h; injection h with h; omega)
              replace hT71 := hT71.grown g105 (by intro h; injection h with h; omega)
              replace hB94 := hB94.grown g105 (by intro h; injection h with h; omega)
              replace hB82 := hB106
              refine Sq.nil ?_
              refine Eq.goes (fun _ => ⟨hB4, hB11⟩) ?_
              refine Gq.one 7 rfl (by kernel_rfl) ?_
              refine Sq.store one60 .plain rfl rfl rfl hB94 (by simp) (fun w108 g109 hB110 => ?_)
              have hs111 := World.grownBy.size g109
              replace E := E.grown g109 (fun k hk => by injection hk with hk; subst hk; omega)
              replace hB4 := hB4.grown g109 (by intro h; injection h with h; omega)
              replace hB11 := hB11.grown g109 (by intro h; injection h with h; omega)
              replace hB19 := hB19.grown g109 (by intro h; injection h with h; omega)
              replace hT58 := hT58.grown g109 (by intro h; injection h with h; omega)
              replace hT71 := hT71.grown g109 (by intro h; injection h with h; omega)
              replace hB82 := hB82.grown g109 (by intro h; injection h with h; omega)
              replace hB94 := hB110
              refine Sq.nil ?_
              refine Eq.goes (fun h => absurd h (by decide)) ?_
              refine Gq.done (by kernel_rfl) ?_
              refine Eq.left _ ⟨b79, b91, _, _, _, _, rfl, hB82, hB94, hT58, hT71, hTab59, hTab72, by omega, E, hB4, hB11, hB19⟩ (.cons rfl (.cons rfl (.cons rfl (.cons rfl (.cons rfl (.cons rfl (.cons rfl (.nil))))))))
            refine Sq.alloc1 zero60 rfl .plain rfl (fun b112 w113 e114 hB115 hlo116 => ?_)
            have hd117 := Nat.le_trans (Below.size E) hlo116
            have hd118 := Nat.lt_of_lt_of_le hB4.lt hlo116
            have hd119 := Nat.lt_of_lt_of_le hB11.lt hlo116
            have hd120 := Nat.lt_of_lt_of_le hB19.lt hlo116
            have hd121 := Nat.lt_of_lt_of_le hT58.lt hlo116
            have hd122 := Nat.lt_of_lt_of_le hT71.lt hlo116
            have hs123 := Below.size e114
            replace E := E.trans e114
            replace hB4 := hB4.ext e114
            replace hB11 := hB11.ext e114
            replace hB19 := hB19.ext e114
            replace hT58 := hT58.ext e114
            replace hT71 := hT71.ext e114
            refine Sq.nil ?_
            refine Eq.goes (fun _ => ⟨hB4, hB11⟩) ?_
            refine Gq.one 4 rfl (by kernel_rfl) ?_
            refine Sq.alloc1 zero60 rfl .plain rfl (fun b124 w125 e126 hB127 hlo128 => ?_)
            have hd129 := Nat.le_trans (Below.size E) hlo128
            have hd130 := Nat.lt_of_lt_of_le hB4.lt hlo128
            have hd131 := Nat.lt_of_lt_of_le hB11.lt hlo128
            have hd132 := Nat.lt_of_lt_of_le hB19.lt hlo128
            have hd133 := Nat.lt_of_lt_of_le hT58.lt hlo128
            have hd134 := Nat.lt_of_lt_of_le hT71.lt hlo128
            have hd135 := Nat.lt_of_lt_of_le hB115.lt hlo128
            have hs136 := Below.size e126
            replace E := E.trans e126
            replace hB4 := hB4.ext e126
            replace hB11 := hB11.ext e126
            replace hB19 := hB19.ext e126
            replace hT58 := hT58.ext e126
            replace hT71 := hT71.ext e126
            replace hB115 := hB115.ext e126
            refine Sq.nil ?_
            refine Eq.goes (fun _ => ⟨hB4, hB11⟩) ?_
            refine Gq.one 6 rfl (by kernel_rfl) ?_
            refine Sq.store one60 .plain rfl rfl rfl hB127 (by simp) (fun w137 g138 hB139 => ?_)
            have hs140 := World.grownBy.size g138
            replace E := E.grown g138 (fun k hk => by injection hk with hk; subst hk; omega)
            replace hB4 := hB4.grown g138 (by intro h; injection h with h; omega)
            replace hB11 := hB11.grown g138 (by intro h; injection h with h; omega)
            replace hB19 := hB19.grown g138 (by intro h; injection h with h; omega)
            replace hT58 := hT58.grown g138 (by intro h; injection h with h; omega)
            replace hT71 := hT71.grown g138 (by intro h; injection h with h; omega)
            replace hB115 := hB115.grown g138 (by intro h; injection h with h; omega)
            replace hB127 := hB139
            refine Sq.nil ?_
            refine Eq.goes (fun _ => ⟨hB4, hB11⟩) ?_
            refine Gq.one 7 rfl (by kernel_rfl) ?_
            refine Sq.store one60 .plain rfl rfl rfl hB115 (by simp) (fun w141 g142 hB143 => ?_)
            have hs144 := World.grownBy.size g142
            replace E := E.grown g142 (fun k hk => by injection hk with hk; subst hk; omega)
            replace hB4 := hB4.grown g142 (by intro h; injection h with h; omega)
            replace hB11 := hB11.grown g142 (by intro h; injection h with h; omega)
            replace hB19 := hB19.grown g142 (by intro h; injection h with h; omega)
            replace hT58 := hT58.grown g142 (by intro h; injection h with h; omega)
            replace hT71 := hT71.grown g142 (by intro h; injection h with h; omega)
            replace hB127 := hB127.grown g142 (by intro h; injection h with h; omega)
            replace hB115 := hB143
            refine Sq.nil ?_
            refine Eq.goes (fun h => absurd h (by decide)) ?_
            refine Gq.done (by kernel_rfl) ?_
            refine Eq.left _ ⟨b124, b112, _, _, _, _, rfl, hB127, hB115, hT58, hT71, hTab59, hTab72, by omega, E, hB4, hB11, hB19⟩ (.cons rfl (.cons rfl (.cons rfl (.cons rfl (.cons rfl (.cons rfl (.cons rfl (.nil))))))))
          · refine Sq.alloc1 zero60 rfl .plain rfl (fun b145 w146 e147 hB148 hlo149 => ?_)
            have hd150 := Nat.le_trans (Below.size E) hlo149
            have hd151 := Nat.lt_of_lt_of_le hB4.lt hlo149
            have hd152 := Nat.lt_of_lt_of_le hB11.lt hlo149
            have hd153 := Nat.lt_of_lt_of_le hB19.lt hlo149
            have hd154 := Nat.lt_of_lt_of_le hT58.lt hlo149
            have hs155 := Below.size e147
            replace E := E.trans e147
            replace hB4 := hB4.ext e147
            replace hB11 := hB11.ext e147
            replace hB19 := hB19.ext e147
            replace hT58 := hT58.ext e147
            refine Sq.nil ?_
            refine Eq.goes (fun _ => ⟨hB4, hB11⟩) ?_
            refine Gq.two 3 5 rfl rfl (by kernel_rfl) ?_ ?_
            · have hd164 := hB4.lt
              have hd165 := hB11.lt
              have hd166 := hB19.lt
              have hd167 := hT58.lt
              have hd168 := hB148.lt
              refine Sq.call fn56 .plain rfl rfl (tableOf_c _ b _ _ (hnx'.ext E) (hac'.ext E) hv') ?_
              rintro _ w157 ⟨⟨b159, xs160, rfl, hlo161, hT162, hTab163⟩, e158⟩
              have hs169 := Below.size E
              have hs170 := Below.size e158
              replace E := E.trans e158
              replace hB4 := hB4.ext e158
              replace hB11 := hB11.ext e158
              replace hB19 := hB19.ext e158
              replace hT58 := hT58.ext e158
              replace hB148 := hB148.ext e158
              refine Sq.nil ?_
              refine Eq.goes (fun _ => ⟨hB4, hB11⟩) ?_
              refine Gq.one 5 rfl (by kernel_rfl) ?_
              refine Sq.alloc1 zero60 rfl .plain rfl (fun b171 w172 e173 hB174 hlo175 => ?_)
              have hd176 := Nat.le_trans (Below.size E) hlo175
              have hd177 := Nat.lt_of_lt_of_le hB4.lt hlo175
              have hd178 := Nat.lt_of_lt_of_le hB11.lt hlo175
              have hd179 := Nat.lt_of_lt_of_le hB19.lt hlo175
              have hd180 := Nat.lt_of_lt_of_le hT58.lt hlo175
              have hd181 := Nat.lt_of_lt_of_le hB148.lt hlo175
              have hd182 := Nat.lt_of_lt_of_le hT162.lt hlo175
              have hs183 := Below.size e173
              replace E := E.trans e173
              replace hB4 := hB4.ext e173
              replace hB11 := hB11.ext e173
              replace hB19 := hB19.ext e173
              replace hT58 := hT58.ext e173
              replace hB148 := hB148.ext e173
              replace hT162 := hT162.ext e173
              refine Sq.nil ?_
              refine Eq.goes (fun _ => ⟨hB4, hB11⟩) ?_
              refine Gq.one 6 rfl (by kernel_rfl) ?_
              refine Sq.store one60 .plain rfl rfl rfl hB148 (by simp) (fun w184 g185 hB186 => ?_)
              have hs187 := World.grownBy.size g185
              replace E := E.grown g185 (fun k hk => by injection hk with hk; subst hk; omega)
              replace hB4 := hB4.grown g185 (by intro h; injection h with h; omega)
              replace hB11 := hB11.grown g185 (by intro h; injection h with h; omega)
              replace hB19 := hB19.grown g185 (by intro h; injection h with h; omega)
              replace hT58 := hT58.grown g185 (by intro h; injection h with h; omega)
              replace hT162 := hT162.grown g185 (by intro h; injection h with h; omega)
              replace hB174 := hB174.grown g185 (by intro h; injection h with h; omega)
              replace hB148 := hB186
              refine Sq.nil ?_
              refine Eq.goes (fun _ => ⟨hB4, hB11⟩) ?_
              refine Gq.one 7 rfl (by kernel_rfl) ?_
              refine Sq.store one60 .plain rfl rfl rfl hB174 (by simp) (fun w188 g189 hB190 => ?_)
              have hs191 := World.grownBy.size g189
              replace E := E.grown g189 (fun k hk => by injection hk with hk; subst hk; omega)
              replace hB4 := hB4.grown g189 (by intro h; injection h with h; omega)
              replace hB11 := hB11.grown g189 (by intro h; injection h with h; omega)
              replace hB19 := hB19.grown g189 (by intro h; injection h with h; omega)
              replace hT58 := hT58.grown g189 (by intro h; injection h with h; omega)
              replace hB148 := hB148.grown g189 (by intro h; injection h with h; omega)
              replace hT162 := hT162.grown g189 (by intro h; injection h with h; omega)
              replace hB174 := hB190
              refine Sq.nil ?_
              refine Eq.goes (fun h => absurd h (by decide)) ?_
              refine Gq.done (by kernel_rfl) ?_
              refine Eq.left _ ⟨b145, b171, _, _, _, _, rfl, hB148, hB174, hT58, hT162, hTab59, hTab163, by omega, E, hB4, hB11, hB19⟩ (.cons rfl (.cons rfl (.cons rfl (.cons rfl (.cons rfl (.cons rfl (.cons rfl (.nil))))))))
            refine Sq.alloc1 zero60 rfl .plain rfl (fun b192 w193 e194 hB195 hlo196 => ?_)
            have hd197 := Nat.le_trans (Below.size E) hlo196
            have hd198 := Nat.lt_of_lt_of_le hB4.lt hlo196
            have hd199 := Nat.lt_of_lt_of_le hB11.lt hlo196
            have hd200 := Nat.lt_of_lt_of_le hB19.lt hlo196
            have hd201 := Nat.lt_of_lt_of_le hT58.lt hlo196
            have hd202 := Nat.lt_of_lt_of_le hB148.lt hlo196
            have hs203 := Below.size e194
            replace E := E.trans e194
            replace hB4 := hB4.ext e194
            replace hB11 := hB11.ext e194
            replace hB19 := hB19.ext e194
            replace hT58 := hT58.ext e194
            replace hB148 := hB148.ext e194
            refine Sq.nil ?_
            refine Eq.goes (fun _ => ⟨hB4, hB11⟩) ?_
            refine Gq.one 3 rfl (by kernel_rfl) ?_
            have hd212 := hB4.lt
            have hd213 := hB11.lt
            have hd214 := hB19.lt
            have hd215 := hT58.lt
            have hd216 := hB148.lt
            have hd217 := hB195.lt
            refine Sq.call fn56 .plain rfl rfl (tableOf_c _ b _ _ (hnx'.ext E) (hac'.ext E) hv') ?_
            rintro _ w205 ⟨⟨b207, xs208, rfl, hlo209, hT210, hTab211⟩, e206⟩
            have hs218 := Below.size E
            have hs219 := Below.size e206
            replace E := E.trans e206
            replace hB4 := hB4.ext e206
            replace hB11 := hB11.ext e206
            replace hB19 := hB19.ext e206
            replace hT58 := hT58.ext e206
            replace hB148 := hB148.ext e206
            replace hB195 := hB195.ext e206
            refine Sq.nil ?_
            refine Eq.goes (fun _ => ⟨hB4, hB11⟩) ?_
            refine Gq.one 6 rfl (by kernel_rfl) ?_
            refine Sq.store one60 .plain rfl rfl rfl hB148 (by simp) (fun w220 g221 hB222 => ?_)
            have hs223 := World.grownBy.size g221
            replace E := E.grown g221 (fun k hk => by injection hk with hk; subst hk; omega)
            replace hB4 := hB4.grown g221 (by intro h; injection h with h; omega)
            replace hB11 := hB11.grown g221 (by intro h; injection h with h; omega)
            replace hB19 := hB19.grown g221 (by intro h; injection h with h; omega)
            replace hT58 := hT58.grown g221 (by intro h; injection h with h; omega)
            replace hB195 := hB195.grown g221 (by intro h; injection h with h; omega)
            replace hT210 := hT210.grown g221 (by intro h; injection h with h; omega)
            replace hB148 := hB222
            refine Sq.nil ?_
            refine Eq.goes (fun _ => ⟨hB4, hB11⟩) ?_
            refine Gq.one 7 rfl (by kernel_rfl) ?_
            refine Sq.store one60 .plain rfl rfl rfl hB195 (by simp) (fun w224 g225 hB226 => ?_)
            have hs227 := World.grownBy.size g225
            replace E := E.grown g225 (fun k hk => by injection hk with hk; subst hk; omega)
            replace hB4 := hB4.grown g225 (by intro h; injection h with h; omega)
            replace hB11 := hB11.grown g225 (by intro h; injection h with h; omega)
            replace hB19 := hB19.grown g225 (by intro h; injection h with h; omega)
            replace hT58 := hT58.grown g225 (by intro h; injection h with h; omega)
            replace hB148 := hB148.grown g225 (by intro h; injection h with h; omega)
            replace hT210 := hT210.grown g225 (by intro h; injection h with h; omega)
            replace hB195 := hB226
            refine Sq.nil ?_
            refine Eq.goes (fun h => absurd h (by decide)) ?_
            refine Gq.done (by kernel_rfl) ?_
            refine Eq.left _ ⟨b145, b192, _, _, _, _, rfl, hB148, hB195, hT58, hT210, hTab59, hTab211, by omega, E, hB4, hB11, hB19⟩ (.cons rfl (.cons rfl (.cons rfl (.cons rfl (.cons rfl (.cons rfl (.cons rfl (.nil))))))))
          refine Sq.alloc1 zero60 rfl .plain rfl (fun b228 w229 e230 hB231 hlo232 => ?_)
          have hd233 := Nat.le_trans (Below.size E) hlo232
          have hd234 := Nat.lt_of_lt_of_le hB4.lt hlo232
          have hd235 := Nat.lt_of_lt_of_le hB11.lt hlo232
          have hd236 := Nat.lt_of_lt_of_le hB19.lt hlo232
          have hd237 := Nat.lt_of_lt_of_le hT58.lt hlo232
          have hs238 := Below.size e230
          replace E := E.trans e230
          replace hB4 := hB4.ext e230
          replace hB11 := hB11.ext e230
          replace hB19 := hB19.ext e230
          replace hT58 := hT58.ext e230
          refine Sq.nil ?_
          refine Eq.goes (fun _ => ⟨hB4, hB11⟩) ?_
          refine Gq.two 3 4 rfl rfl (by kernel_rfl) ?_ ?_
          · have hd247 := hB4.lt
            have hd248 := hB11.lt
            have hd249 := hB19.lt
            have hd250 := hT58.lt
            have hd251 := hB231.lt
            refine Sq.call fn56 .plain rfl rfl (tableOf_c _ b _ _ (hnx'.ext E) (hac'.ext E) hv') ?_
            rintro _ w240 ⟨⟨b242, xs243, rfl, hlo244, hT245, hTab246⟩, e241⟩
            have hs252 := Below.size E
            have hs253 := Below.size e241
            replace E := E.trans e241
            replace hB4 := hB4.ext e241
            replace hB11 := hB11.ext e241
            replace hB19 := hB19.ext e241
            replace hT58 := hT58.ext e241
            replace hB231 := hB231.ext e241
            refine Sq.nil ?_
            refine Eq.goes (fun _ => ⟨hB4, hB11⟩) ?_
            refine Gq.one 4 rfl (by kernel_rfl) ?_
            refine Sq.alloc1 zero60 rfl .plain rfl (fun b254 w255 e256 hB257 hlo258 => ?_)
            have hd259 := Nat.le_trans (Below.size E) hlo258
            have hd260 := Nat.lt_of_lt_of_le hB4.lt hlo258
            have hd261 := Nat.lt_of_lt_of_le hB11.lt hlo258
            have hd262 := Nat.lt_of_lt_of_le hB19.lt hlo258
            have hd263 := Nat.lt_of_lt_of_le hT58.lt hlo258
            have hd264 := Nat.lt_of_lt_of_le hB231.lt hlo258
            have hd265 := Nat.lt_of_lt_of_le hT245.lt hlo258
            have hs266 := Below.size e256
            replace E := E.trans e256
            replace hB4 := hB4.ext e256
            replace hB11 := hB11.ext e256
            replace hB19 := hB19.ext e256
            replace hT58 := hT58.ext e256
            replace hB231 := hB231.ext e256
            replace hT245 := hT245.ext e256
            refine Sq.nil ?_
            refine Eq.goes (fun _ => ⟨hB4, hB11⟩) ?_
            refine Gq.one 6 rfl (by kernel_rfl) ?_
            refine Sq.store one60 .plain rfl rfl rfl hB257 (by simp) (fun w267 g268 hB269 => ?_)
            have hs270 := World.grownBy.size g268
            replace E := E.grown g268 (fun k hk => by injection hk with hk; subst hk; omega)
            replace hB4 := hB4.grown g268 (by intro h; injection h with h; omega)
            replace hB11 := hB11.grown g268 (by intro h; injection h with h; omega)
            replace hB19 := hB19.grown g268 (by intro h; injection h with h; omega)
            replace hT58 := hT58.grown g268 (by intro h; injection h with h; omega)
            replace hB231 := hB231.grown g268 (by intro h; injection h with h; omega)
            replace hT245 := hT245.grown g268 (by intro h; injection h with h; omega)
            replace hB257 := hB269
            refine Sq.nil ?_
            refine Eq.goes (fun _ => ⟨hB4, hB11⟩) ?_
            refine Gq.one 7 rfl (by kernel_rfl) ?_
            refine Sq.store one60 .plain rfl rfl rfl hB231 (by simp) (fun w271 g272 hB273 => ?_)
            have hs274 := World.grownBy.size g272
            replace E := E.grown g272 (fun k hk => by injection hk with hk; subst hk; omega)
            replace hB4 := hB4.grown g272 (by intro h; injection h with h; omega)
            replace hB11 := hB11.grown g272 (by intro h; injection h with h; omega)
            replace hB19 := hB19.grown g272 (by intro h; injection h with h; omega)
            replace hT58 := hT58.grown g272 (by intro h; injection h with h; omega)
            replace hT245 := hT245.grown g272 (by intro h; injection h with h; omega)
            replace hB257 := hB257.grown g272 (by intro h; injection h with h; omega)
            replace hB231 := hB273
            refine Sq.nil ?_
            refine Eq.goes (fun h => absurd h (by decide)) ?_
            refine Gq.done (by kernel_rfl) ?_
            refine Eq.left _ ⟨b254, b228, _, _, _, _, rfl, hB257, hB231, hT58, hT245, hTab59, hTab246, by omega, E, hB4, hB11, hB19⟩ (.cons rfl (.cons rfl (.cons rfl (.cons rfl (.cons rfl (.cons rfl (.cons rfl (.nil))))))))
          refine Sq.alloc1 zero60 rfl .plain rfl (fun b275 w276 e277 hB278 hlo279 => ?_)
          have hd280 := Nat.le_trans (Below.size E) hlo279
          have hd281 := Nat.lt_of_lt_of_le hB4.lt hlo279
          have hd282 := Nat.lt_of_lt_of_le hB11.lt hlo279
          have hd283 := Nat.lt_of_lt_of_le hB19.lt hlo279
          have hd284 := Nat.lt_of_lt_of_le hT58.lt hlo279
          have hd285 := Nat.lt_of_lt_of_le hB231.lt hlo279
          have hs286 := Below.size e277
          replace E := E.trans e277
          replace hB4 := hB4.ext e277
          replace hB11 := hB11.ext e277
          replace hB19 := hB19.ext e277
          replace hT58 := hT58.ext e277
          replace hB231 := hB231.ext e277
          refine Sq.nil ?_
          refine Eq.goes (fun _ => ⟨hB4, hB11⟩) ?_
          refine Gq.one 3 rfl (by kernel_rfl) ?_
          have hd295 := hB4.lt
          have hd296 := hB11.lt
          have hd297 := hB19.lt
          have hd298 := hT58.lt
          have hd299 := hB231.lt
          have hd300 := hB278.lt
          refine Sq.call fn56 .plain rfl rfl (tableOf_c _ b _ _ (hnx'.ext E) (hac'.ext E) hv') ?_
          rintro _ w288 ⟨⟨b290, xs291, rfl, hlo292, hT293, hTab294⟩, e289⟩
          have hs301 := Below.size E
          have hs302 := Below.size e289
          replace E := E.trans e289
          replace hB4 := hB4.ext e289
          replace hB11 := hB11.ext e289
          replace hB19 := hB19.ext e289
          replace hT58 := hT58.ext e289
          replace hB231 := hB231.ext e289
          replace hB278 := hB278.ext e289
          refine Sq.nil ?_
          refine Eq.goes (fun _ => ⟨hB4, hB11⟩) ?_
          refine Gq.one 6 rfl (by kernel_rfl) ?_
          refine Sq.store one60 .plain rfl rfl rfl hB278 (by simp) (fun w303 g304 hB305 => ?_)
          have hs306 := World.grownBy.size g304
          replace E := E.grown g304 (fun k hk => by injection hk with hk; subst hk; omega)
          replace hB4 := hB4.grown g304 (by intro h; injection h with h; omega)
          replace hB11 := hB11.grown g304 (by intro h; injection h with h; omega)
          replace hB19 := hB19.grown g304 (by intro h; injection h with h; omega)
          replace hT58 := hT58.grown g304 (by intro h; injection h with h; omega)
          replace hB231 := hB231.grown g304 (by intro h; injection h with h; omega)
          replace hT293 := hT293.grown g304 (by intro h; injection h with h; omega)
          replace hB278 := hB305
          refine Sq.nil ?_
          refine Eq.goes (fun _ => ⟨hB4, hB11⟩) ?_
          refine Gq.one 7 rfl (by kernel_rfl) ?_
          refine Sq.store one60 .plain rfl rfl rfl hB231 (by simp) (fun w307 g308 hB309 => ?_)
          have hs310 := World.grownBy.size g308
          replace E := E.grown g308 (fun k hk => by injection hk with hk; subst hk; omega)
          replace hB4 := hB4.grown g308 (by intro h; injection h with h; omega)
          replace hB11 := hB11.grown g308 (by intro h; injection h with h; omega)
          replace hB19 := hB19.grown g308 (by intro h; injection h with h; omega)
          replace hT58 := hT58.grown g308 (by intro h; injection h with h; omega)
          replace hB278 := hB278.grown g308 (by intro h; injection h with h; omega)
          replace hT293 := hT293.grown g308 (by intro h; injection h with h; omega)
          replace hB231 := hB309
          refine Sq.nil ?_
          refine Eq.goes (fun h => absurd h (by decide)) ?_
          refine Gq.done (by kernel_rfl) ?_
          refine Eq.left _ ⟨b275, b228, _, _, _, _, rfl, hB278, hB231, hT58, hT293, hTab59, hTab294, by omega, E, hB4, hB11, hB19⟩ (.cons rfl (.cons rfl (.cons rfl (.cons rfl (.cons rfl (.cons rfl (.cons rfl (.nil))))))))
        · refine Sq.alloc1 zero60 rfl .plain rfl (fun b311 w312 e313 hB314 hlo315 => ?_)
          have hd316 := Nat.le_trans (Below.size E) hlo315
          have hd317 := Nat.lt_of_lt_of_le hB4.lt hlo315
          have hd318 := Nat.lt_of_lt_of_le hB11.lt hlo315
          have hd319 := Nat.lt_of_lt_of_le hB19.lt hlo315
          have hs320 := Below.size e313
          replace E := E.trans e313
          replace hB4 := hB4.ext e313
          replace hB11 := hB11.ext e313
          replace hB19 := hB19.ext e313
          refine Sq.nil ?_
          refine Eq.goes (fun _ => ⟨hB4, hB11⟩) ?_
          refine Gq.two 1 5 rfl rfl (by kernel_rfl) ?_ ?_
          · have hd329 := hB4.lt
            have hd330 := hB11.lt
            have hd331 := hB19.lt
            have hd332 := hB314.lt
            refine Sq.call fn56 .plain rfl rfl (tableOf_c _ a _ _ (hnx.ext E) (hac.ext E) hv) ?_
            rintro _ w322 ⟨⟨b324, xs325, rfl, hlo326, hT327, hTab328⟩, e323⟩
            have hs333 := Below.size E
            have hs334 := Below.size e323
            replace E := E.trans e323
            replace hB4 := hB4.ext e323
            replace hB11 := hB11.ext e323
            replace hB19 := hB19.ext e323
            replace hB314 := hB314.ext e323
            refine Sq.nil ?_
            refine Eq.goes (fun _ => ⟨hB4, hB11⟩) ?_
            refine Gq.two 3 5 rfl rfl (by kernel_rfl) ?_ ?_
            · have hd343 := hB4.lt
              have hd344 := hB11.lt
              have hd345 := hB19.lt
              have hd346 := hB314.lt
              have hd347 := hT327.lt
              refine Sq.call fn56 .plain rfl rfl (tableOf_c _ b _ _ (hnx'.ext E) (hac'.ext E) hv') ?_
              rintro _ w336 ⟨⟨b338, xs339, rfl, hlo340, hT341, hTab342⟩, e337⟩
              have hs348 := Below.size E
              have hs349 := Below.size e337
              replace E := E.trans e337
              replace hB4 := hB4.ext e337
              replace hB11 := hB11.ext e337
              replace hB19 := hB19.ext e337
              replace hB314 := hB314.ext e337
              replace hT327 := hT327.ext e337
              refine Sq.nil ?_
              refine Eq.goes (fun _ => ⟨hB4, hB11⟩) ?_
              refine Gq.one 5 rfl (by kernel_rfl) ?_
              refine Sq.alloc1 zero60 rfl .plain rfl (fun b350 w351 e352 hB353 hlo354 => ?_)
              have hd355 := Nat.le_trans (Below.size E) hlo354
              have hd356 := Nat.lt_of_lt_of_le hB4.lt hlo354
              have hd357 := Nat.lt_of_lt_of_le hB11.lt hlo354
              have hd358 := Nat.lt_of_lt_of_le hB19.lt hlo354
              have hd359 := Nat.lt_of_lt_of_le hB314.lt hlo354
              have hd360 := Nat.lt_of_lt_of_le hT327.lt hlo354
              have hd361 := Nat.lt_of_lt_of_le hT341.lt hlo354
              have hs362 := Below.size e352
              replace E := E.trans e352
              replace hB4 := hB4.ext e352
              replace hB11 := hB11.ext e352
              replace hB19 := hB19.ext e352
              replace hB314 := hB314.ext e352
              replace hT327 := hT327.ext e352
              replace hT341 := hT341.ext e352
              refine Sq.nil ?_
              refine Eq.goes (fun _ => ⟨hB4, hB11⟩) ?_
              refine Gq.one 6 rfl (by kernel_rfl) ?_
              refine Sq.store one60 .plain rfl rfl rfl hB314 (by simp) (fun w363 g364 hB365 => ?_)
              have hs366 := World.grownBy.size g364
              replace E := E.grown g364 (fun k hk => by injection hk with hk; subst hk; omega)
              replace hB4 := hB4.grown g364 (by intro h; injection h with h; omega)
              replace hB11 := hB11.grown g364 (by intro h; injection h with h; omega)
              replace hB19 := hB19.grown g364 (by intro h; injection h with h; omega)
              replace hT327 := hT327.grown g364 (by intro h; injection h with h; omega)
              replace hT341 := hT341.grown g364 (by intro h; injection h with h; omega)
              replace hB353 := hB353.grown g364 (by intro h; injection h with h; omega)
              replace hB314 := hB365
              refine Sq.nil ?_
              refine Eq.goes (fun _ => ⟨hB4, hB11⟩) ?_
              refine Gq.one 7 rfl (by kernel_rfl) ?_
              refine Sq.store one60 .plain rfl rfl rfl hB353 (by simp) (fun w367 g368 hB369 => ?_)
              have hs370 := World.grownBy.size g368
              replace E := E.grown g368 (fun k hk => by injection hk with hk; subst hk; omega)
              replace hB4 := hB4.grown g368 (by intro h; injection h with h; omega)
              replace hB11 := hB11.grown g368 (by intro h; injection h with h; omega)
              replace hB19 := hB19.grown g368 (by intro h; injection h with h; omega)
              replace hB314 := hB314.grown g368 (by intro h; injection h with h; omega)
              replace hT327 := hT327.grown g368 (by intro h; injection h with h; omega)
              replace hT341 := hT341.grown g368 (by intro h; injection h with h; omega)
              replace hB353 := hB369
              refine Sq.nil ?_
              refine Eq.goes (fun h => absurd h (by decide)) ?_
              refine Gq.done (by kernel_rfl) ?_
              refine Eq.left _ ⟨b311, b350, _, _, _, _, rfl, hB314, hB353, hT327, hT341, hTab328, hTab342, by omega, E, hB4, hB11, hB19⟩ (.cons rfl (.cons rfl (.cons rfl (.cons rfl (.cons rfl (.cons rfl (.cons rfl (.nil))))))))
            refine Sq.alloc1 zero60 rfl .plain rfl (fun b371 w372 e373 hB374 hlo375 => ?_)
            have hd376 := Nat.le_trans (Below.size E) hlo375
            have hd377 := Nat.lt_of_lt_of_le hB4.lt hlo375
            have hd378 := Nat.lt_of_lt_of_le hB11.lt hlo375
            have hd379 := Nat.lt_of_lt_of_le hB19.lt hlo375
            have hd380 := Nat.lt_of_lt_of_le hB314.lt hlo375
            have hd381 := Nat.lt_of_lt_of_le hT327.lt hlo375
            have hs382 := Below.size e373
            replace E := E.trans e373
            replace hB4 := hB4.ext e373
            replace hB11 := hB11.ext e373
            replace hB19 := hB19.ext e373
            replace hB314 := hB314.ext e373
            replace hT327 := hT327.ext e373
            refine Sq.nil ?_
            refine Eq.goes (fun _ => ⟨hB4, hB11⟩) ?_
            refine Gq.one 3 rfl (by kernel_rfl) ?_
            have hd391 := hB4.lt
            have hd392 := hB11.lt
            have hd393 := hB19.lt
            have hd394 := hB314.lt
            have hd395 := hT327.lt
            have hd396 := hB374.lt
            refine Sq.call fn56 .plain rfl rfl (tableOf_c _ b _ _ (hnx'.ext E) (hac'.ext E) hv') ?_
            rintro _ w384 ⟨⟨b386, xs387, rfl, hlo388, hT389, hTab390⟩, e385⟩
            have hs397 := Below.size E
            have hs398 := Below.size e385
            replace E := E.trans e385
            replace hB4 := hB4.ext e385
            replace hB11 := hB11.ext e385
            replace hB19 := hB19.ext e385
            replace hB314 := hB314.ext e385
            replace hT327 := hT327.ext e385
            replace hB374 := hB374.ext e385
            refine Sq.nil ?_
            refine Eq.goes (fun _ => ⟨hB4, hB11⟩) ?_
            refine Gq.one 6 rfl (by kernel_rfl) ?_
            refine Sq.store one60 .plain rfl rfl rfl hB314 (by simp) (fun w399 g400 hB401 => ?_)
            have hs402 := World.grownBy.size g400
            replace E := E.grown g400 (fun k hk => by injection hk with hk; subst hk; omega)
            replace hB4 := hB4.grown g400 (by intro h; injection h with h; omega)
            replace hB11 := hB11.grown g400 (by intro h; injection h with h; omega)
            replace hB19 := hB19.grown g400 (by intro h; injection h with h; omega)
            replace hT327 := hT327.grown g400 (by intro h; injection h with h; omega)
            replace hB374 := hB374.grown g400 (by intro h; injection h with h; omega)
            replace hT389 := hT389.grown g400 (by intro h; injection h with h; omega)
            replace hB314 := hB401
            refine Sq.nil ?_
            refine Eq.goes (fun _ => ⟨hB4, hB11⟩) ?_
            refine Gq.one 7 rfl (by kernel_rfl) ?_
            refine Sq.store one60 .plain rfl rfl rfl hB374 (by simp) (fun w403 g404 hB405 => ?_)
            have hs406 := World.grownBy.size g404
            replace E := E.grown g404 (fun k hk => by injection hk with hk; subst hk; omega)
            replace hB4 := hB4.grown g404 (by intro h; injection h with h; omega)
            replace hB11 := hB11.grown g404 (by intro h; injection h with h; omega)
            replace hB19 := hB19.grown g404 (by intro h; injection h with h; omega)
            replace hB314 := hB314.grown g404 (by intro h; injection h with h; omega)
            replace hT327 := hT327.grown g404 (by intro h; injection h with h; omega)
            replace hT389 := hT389.grown g404 (by intro h; injection h with h; omega)
            replace hB374 := hB405
            refine Sq.nil ?_
            refine Eq.goes (fun h => absurd h (by decide)) ?_
            refine Gq.done (by kernel_rfl) ?_
            refine Eq.left _ ⟨b311, b371, _, _, _, _, rfl, hB314, hB374, hT327, hT389, hTab328, hTab390, by omega, E, hB4, hB11, hB19⟩ (.cons rfl (.cons rfl (.cons rfl (.cons rfl (.cons rfl (.cons rfl (.cons rfl (.nil))))))))
          refine Sq.alloc1 zero60 rfl .plain rfl (fun b407 w408 e409 hB410 hlo411 => ?_)
          have hd412 := Nat.le_trans (Below.size E) hlo411
          have hd413 := Nat.lt_of_lt_of_le hB4.lt hlo411
          have hd414 := Nat.lt_of_lt_of_le hB11.lt hlo411
          have hd415 := Nat.lt_of_lt_of_le hB19.lt hlo411
          have hd416 := Nat.lt_of_lt_of_le hB314.lt hlo411
          have hs417 := Below.size e409
          replace E := E.trans e409
          replace hB4 := hB4.ext e409
          replace hB11 := hB11.ext e409
          replace hB19 := hB19.ext e409
          replace hB314 := hB314.ext e409
          refine Sq.nil ?_
          refine Eq.goes (fun _ => ⟨hB4, hB11⟩) ?_
          refine Gq.one 1 rfl (by kernel_rfl) ?_
          have hd426 := hB4.lt
          have hd427 := hB11.lt
          have hd428 := hB19.lt
          have hd429 := hB314.lt
          have hd430 := hB410.lt
          refine Sq.call fn56 .plain rfl rfl (tableOf_c _ a _ _ (hnx.ext E) (hac.ext E) hv) ?_
          rintro _ w419 ⟨⟨b421, xs422, rfl, hlo423, hT424, hTab425⟩, e420⟩
          have hs431 := Below.size E
          have hs432 := Below.size e420
          replace E := E.trans e420
          replace hB4 := hB4.ext e420
          replace hB11 := hB11.ext e420
          replace hB19 := hB19.ext e420
          replace hB314 := hB314.ext e420
          replace hB410 := hB410.ext e420
          refine Sq.nil ?_
          refine Eq.goes (fun _ => ⟨hB4, hB11⟩) ?_
          refine Gq.one 3 rfl (by kernel_rfl) ?_
          have hd441 := hB4.lt
          have hd442 := hB11.lt
          have hd443 := hB19.lt
          have hd444 := hB314.lt
          have hd445 := hB410.lt
          have hd446 := hT424.lt
          refine Sq.call fn56 .plain rfl rfl (tableOf_c _ b _ _ (hnx'.ext E) (hac'.ext E) hv') ?_
          rintro _ w434 ⟨⟨b436, xs437, rfl, hlo438, hT439, hTab440⟩, e435⟩
          have hs447 := Below.size E
          have hs448 := Below.size e435
          replace E := E.trans e435
          replace hB4 := hB4.ext e435
          replace hB11 := hB11.ext e435
          replace hB19 := hB19.ext e435
          replace hB314 := hB314.ext e435
          replace hB410 := hB410.ext e435
          replace hT424 := hT424.ext e435
          refine Sq.nil ?_
          refine Eq.goes (fun _ => ⟨hB4, hB11⟩) ?_
          refine Gq.one 6 rfl (by kernel_rfl) ?_
          refine Sq.store one60 .plain rfl rfl rfl hB314 (by simp) (fun w449 g450 hB451 => ?_)
          have hs452 := World.grownBy.size g450
          replace E := E.grown g450 (fun k hk => by injection hk with hk; subst hk; omega)
          replace hB4 := hB4.grown g450 (by intro h; injection h with h; omega)
          replace hB11 := hB11.grown g450 (by intro h; injection h with h; omega)
          replace hB19 := hB19.grown g450 (by intro h; injection h with h; omega)
          replace hB410 := hB410.grown g450 (by intro h; injection h with h; omega)
          replace hT424 := hT424.grown g450 (by intro h; injection h with h; omega)
          replace hT439 := hT439.grown g450 (by intro h; injection h with h; omega)
          replace hB314 := hB451
          refine Sq.nil ?_
          refine Eq.goes (fun _ => ⟨hB4, hB11⟩) ?_
          refine Gq.one 7 rfl (by kernel_rfl) ?_
          refine Sq.store one60 .plain rfl rfl rfl hB410 (by simp) (fun w453 g454 hB455 => ?_)
          have hs456 := World.grownBy.size g454
          replace E := E.grown g454 (fun k hk => by injection hk with hk; subst hk; omega)
          replace hB4 := hB4.grown g454 (by intro h; injection h with h; omega)
          replace hB11 := hB11.grown g454 (by intro h; injection h with h; omega)
          replace hB19 := hB19.grown g454 (by intro h; injection h with h; omega)
          replace hB314 := hB314.grown g454 (by intro h; injection h with h; omega)
          replace hT424 := hT424.grown g454 (by intro h; injection h with h; omega)
          replace hT439 := hT439.grown g454 (by intro h; injection h with h; omega)
          replace hB410 := hB455
          refine Sq.nil ?_
          refine Eq.goes (fun h => absurd h (by decide)) ?_
          refine Gq.done (by kernel_rfl) ?_
          refine Eq.left _ ⟨b311, b407, _, _, _, _, rfl, hB314, hB410, hT424, hT439, hTab425, hTab440, by omega, E, hB4, hB11, hB19⟩ (.cons rfl (.cons rfl (.cons rfl (.cons rfl (.cons rfl (.cons rfl (.cons rfl (.nil))))))))
        refine Sq.alloc1 zero60 rfl .plain rfl (fun b457 w458 e459 hB460 hlo461 => ?_)
        have hd462 := Nat.le_trans (Below.size E) hlo461
        have hd463 := Nat.lt_of_lt_of_le hB4.lt hlo461
        have hd464 := Nat.lt_of_lt_of_le hB11.lt hlo461
        have hd465 := Nat.lt_of_lt_of_le hB19.lt hlo461
        have hs466 := Below.size e459
        replace E := E.trans e459
        replace hB4 := hB4.ext e459
        replace hB11 := hB11.ext e459
        replace hB19 := hB19.ext e459
        refine Sq.nil ?_
        refine Eq.goes (fun _ => ⟨hB4, hB11⟩) ?_
        refine Gq.two 1 4 rfl rfl (by kernel_rfl) ?_ ?_
        · have hd475 := hB4.lt
          have hd476 := hB11.lt
          have hd477 := hB19.lt
          have hd478 := hB460.lt
          refine Sq.call fn56 .plain rfl rfl (tableOf_c _ a _ _ (hnx.ext E) (hac.ext E) hv) ?_
          rintro _ w468 ⟨⟨b470, xs471, rfl, hlo472, hT473, hTab474⟩, e469⟩
          have hs479 := Below.size E
          have hs480 := Below.size e469
          replace E := E.trans e469
          replace hB4 := hB4.ext e469
          replace hB11 := hB11.ext e469
          replace hB19 := hB19.ext e469
          replace hB460 := hB460.ext e469
          refine Sq.nil ?_
          refine Eq.goes (fun _ => ⟨hB4, hB11⟩) ?_
          refine Gq.two 3 4 rfl rfl (by kernel_rfl) ?_ ?_
          · have hd489 := hB4.lt
            have hd490 := hB11.lt
            have hd491 := hB19.lt
            have hd492 := hB460.lt
            have hd493 := hT473.lt
            refine Sq.call fn56 .plain rfl rfl (tableOf_c _ b _ _ (hnx'.ext E) (hac'.ext E) hv') ?_
            rintro _ w482 ⟨⟨b484, xs485, rfl, hlo486, hT487, hTab488⟩, e483⟩
            have hs494 := Below.size E
            have hs495 := Below.size e483
            replace E := E.trans e483
            replace hB4 := hB4.ext e483
            replace hB11 := hB11.ext e483
            replace hB19 := hB19.ext e483
            replace hB460 := hB460.ext e483
            replace hT473 := hT473.ext e483
            refine Sq.nil ?_
            refine Eq.goes (fun _ => ⟨hB4, hB11⟩) ?_
            refine Gq.one 4 rfl (by kernel_rfl) ?_
            refine Sq.alloc1 zero60 rfl .plain rfl (fun b496 w497 e498 hB499 hlo500 => ?_)
            have hd501 := Nat.le_trans (Below.size E) hlo500
            have hd502 := Nat.lt_of_lt_of_le hB4.lt hlo500
            have hd503 := Nat.lt_of_lt_of_le hB11.lt hlo500
            have hd504 := Nat.lt_of_lt_of_le hB19.lt hlo500
            have hd505 := Nat.lt_of_lt_of_le hB460.lt hlo500
            have hd506 := Nat.lt_of_lt_of_le hT473.lt hlo500
            have hd507 := Nat.lt_of_lt_of_le hT487.lt hlo500
            have hs508 := Below.size e498
            replace E := E.trans e498
            replace hB4 := hB4.ext e498
            replace hB11 := hB11.ext e498
            replace hB19 := hB19.ext e498
            replace hB460 := hB460.ext e498
            replace hT473 := hT473.ext e498
            replace hT487 := hT487.ext e498
            refine Sq.nil ?_
            refine Eq.goes (fun _ => ⟨hB4, hB11⟩) ?_
            refine Gq.one 6 rfl (by kernel_rfl) ?_
            refine Sq.store one60 .plain rfl rfl rfl hB499 (by simp) (fun w509 g510 hB511 => ?_)
            have hs512 := World.grownBy.size g510
            replace E := E.grown g510 (fun k hk => by injection hk with hk; subst hk; omega)
            replace hB4 := hB4.grown g510 (by intro h; injection h with h; omega)
            replace hB11 := hB11.grown g510 (by intro h; injection h with h; omega)
            replace hB19 := hB19.grown g510 (by intro h; injection h with h; omega)
            replace hB460 := hB460.grown g510 (by intro h; injection h with h; omega)
            replace hT473 := hT473.grown g510 (by intro h; injection h with h; omega)
            replace hT487 := hT487.grown g510 (by intro h; injection h with h; omega)
            replace hB499 := hB511
            refine Sq.nil ?_
            refine Eq.goes (fun _ => ⟨hB4, hB11⟩) ?_
            refine Gq.one 7 rfl (by kernel_rfl) ?_
            refine Sq.store one60 .plain rfl rfl rfl hB460 (by simp) (fun w513 g514 hB515 => ?_)
            have hs516 := World.grownBy.size g514
            replace E := E.grown g514 (fun k hk => by injection hk with hk; subst hk; omega)
            replace hB4 := hB4.grown g514 (by intro h; injection h with h; omega)
            replace hB11 := hB11.grown g514 (by intro h; injection h with h; omega)
            replace hB19 := hB19.grown g514 (by intro h; injection h with h; omega)
            replace hT473 := hT473.grown g514 (by intro h; injection h with h; omega)
            replace hT487 := hT487.grown g514 (by intro h; injection h with h; omega)
            replace hB499 := hB499.grown g514 (by intro h; injection h with h; omega)
            replace hB460 := hB515
            refine Sq.nil ?_
            refine Eq.goes (fun h => absurd h (by decide)) ?_
            refine Gq.done (by kernel_rfl) ?_
            refine Eq.left _ ⟨b496, b457, _, _, _, _, rfl, hB499, hB460, hT473, hT487, hTab474, hTab488, by omega, E, hB4, hB11, hB19⟩ (.cons rfl (.cons rfl (.cons rfl (.cons rfl (.cons rfl (.cons rfl (.cons rfl (.nil))))))))
          refine Sq.alloc1 zero60 rfl .plain rfl (fun b517 w518 e519 hB520 hlo521 => ?_)
          have hd522 := Nat.le_trans (Below.size E) hlo521
          have hd523 := Nat.lt_of_lt_of_le hB4.lt hlo521
          have hd524 := Nat.lt_of_lt_of_le hB11.lt hlo521
          have hd525 := Nat.lt_of_lt_of_le hB19.lt hlo521
          have hd526 := Nat.lt_of_lt_of_le hB460.lt hlo521
          have hd527 := Nat.lt_of_lt_of_le hT473.lt hlo521
          have hs528 := Below.size e519
          replace E := E.trans e519
          replace hB4 := hB4.ext e519
          replace hB11 := hB11.ext e519
          replace hB19 := hB19.ext e519
          replace hB460 := hB460.ext e519
          replace hT473 := hT473.ext e519
          refine Sq.nil ?_
          refine Eq.goes (fun _ => ⟨hB4, hB11⟩) ?_
          refine Gq.one 3 rfl (by kernel_rfl) ?_
          have hd537 := hB4.lt
          have hd538 := hB11.lt
          have hd539 := hB19.lt
          have hd540 := hB460.lt
          have hd541 := hT473.lt
          have hd542 := hB520.lt
          refine Sq.call fn56 .plain rfl rfl (tableOf_c _ b _ _ (hnx'.ext E) (hac'.ext E) hv') ?_
          rintro _ w530 ⟨⟨b532, xs533, rfl, hlo534, hT535, hTab536⟩, e531⟩
          have hs543 := Below.size E
          have hs544 := Below.size e531
          replace E := E.trans e531
          replace hB4 := hB4.ext e531
          replace hB11 := hB11.ext e531
          replace hB19 := hB19.ext e531
          replace hB460 := hB460.ext e531
          replace hT473 := hT473.ext e531
          replace hB520 := hB520.ext e531
          refine Sq.nil ?_
          refine Eq.goes (fun _ => ⟨hB4, hB11⟩) ?_
          refine Gq.one 6 rfl (by kernel_rfl) ?_
          refine Sq.store one60 .plain rfl rfl rfl hB520 (by simp) (fun w545 g546 hB547 => ?_)
          have hs548 := World.grownBy.size g546
          replace E := E.grown g546 (fun k hk => by injection hk with hk; subst hk; omega)
          replace hB4 := hB4.grown g546 (by intro h; injection h with h; omega)
          replace hB11 := hB11.grown g546 (by intro h; injection h with h; omega)
          replace hB19 := hB19.grown g546 (by intro h; injection h with h; omega)
          replace hB460 := hB460.grown g546 (by intro h; injection h with h; omega)
          replace hT473 := hT473.grown g546 (by intro h; injection h with h; omega)
          replace hT535 := hT535.grown g546 (by intro h; injection h with h; omega)
          replace hB520 := hB547
          refine Sq.nil ?_
          refine Eq.goes (fun _ => ⟨hB4, hB11⟩) ?_
          refine Gq.one 7 rfl (by kernel_rfl) ?_
          refine Sq.store one60 .plain rfl rfl rfl hB460 (by simp) (fun w549 g550 hB551 => ?_)
          have hs552 := World.grownBy.size g550
          replace E := E.grown g550 (fun k hk => by injection hk with hk; subst hk; omega)
          replace hB4 := hB4.grown g550 (by intro h; injection h with h; omega)
          replace hB11 := hB11.grown g550 (by intro h; injection h with h; omega)
          replace hB19 := hB19.grown g550 (by intro h; injection h with h; omega)
          replace hT473 := hT473.grown g550 (by intro h; injection h with h; omega)
          replace hB520 := hB520.grown g550 (by intro h; injection h with h; omega)
          replace hT535 := hT535.grown g550 (by intro h; injection h with h; omega)
          replace hB460 := hB551
          refine Sq.nil ?_
          refine Eq.goes (fun h => absurd h (by decide)) ?_
          refine Gq.done (by kernel_rfl) ?_
          refine Eq.left _ ⟨b517, b457, _, _, _, _, rfl, hB520, hB460, hT473, hT535, hTab474, hTab536, by omega, E, hB4, hB11, hB19⟩ (.cons rfl (.cons rfl (.cons rfl (.cons rfl (.cons rfl (.cons rfl (.cons rfl (.nil))))))))
        refine Sq.alloc1 zero60 rfl .plain rfl (fun b553 w554 e555 hB556 hlo557 => ?_)
        have hd558 := Nat.le_trans (Below.size E) hlo557
        have hd559 := Nat.lt_of_lt_of_le hB4.lt hlo557
        have hd560 := Nat.lt_of_lt_of_le hB11.lt hlo557
        have hd561 := Nat.lt_of_lt_of_le hB19.lt hlo557
        have hd562 := Nat.lt_of_lt_of_le hB460.lt hlo557
        have hs563 := Below.size e555
        replace E := E.trans e555
        replace hB4 := hB4.ext e555
        replace hB11 := hB11.ext e555
        replace hB19 := hB19.ext e555
        replace hB460 := hB460.ext e555
        refine Sq.nil ?_
        refine Eq.goes (fun _ => ⟨hB4, hB11⟩) ?_
        refine Gq.one 1 rfl (by kernel_rfl) ?_
        have hd572 := hB4.lt
        have hd573 := hB11.lt
        have hd574 := hB19.lt
        have hd575 := hB460.lt
        have hd576 := hB556.lt
        refine Sq.call fn56 .plain rfl rfl (tableOf_c _ a _ _ (hnx.ext E) (hac.ext E) hv) ?_
        rintro _ w565 ⟨⟨b567, xs568, rfl, hlo569, hT570, hTab571⟩, e566⟩
        have hs577 := Below.size E
        have hs578 := Below.size e566
        replace E := E.trans e566
        replace hB4 := hB4.ext e566
        replace hB11 := hB11.ext e566
        replace hB19 := hB19.ext e566
        replace hB460 := hB460.ext e566
        replace hB556 := hB556.ext e566
        refine Sq.nil ?_
        refine Eq.goes (fun _ => ⟨hB4, hB11⟩) ?_
        refine Gq.one 3 rfl (by kernel_rfl) ?_
        have hd587 := hB4.lt
        have hd588 := hB11.lt
        have hd589 := hB19.lt
        have hd590 := hB460.lt
        have hd591 := hB556.lt
        have hd592 := hT570.lt
        refine Sq.call fn56 .plain rfl rfl (tableOf_c _ b _ _ (hnx'.ext E) (hac'.ext E) hv') ?_
        rintro _ w580 ⟨⟨b582, xs583, rfl, hlo584, hT585, hTab586⟩, e581⟩
        have hs593 := Below.size E
        have hs594 := Below.size e581
        replace E := E.trans e581
        replace hB4 := hB4.ext e581
        replace hB11 := hB11.ext e581
        replace hB19 := hB19.ext e581
        replace hB460 := hB460.ext e581
        replace hB556 := hB556.ext e581
        replace hT570 := hT570.ext e581
        refine Sq.nil ?_
        refine Eq.goes (fun _ => ⟨hB4, hB11⟩) ?_
        refine Gq.one 6 rfl (by kernel_rfl) ?_
        refine Sq.store one60 .plain rfl rfl rfl hB556 (by simp) (fun w595 g596 hB597 => ?_)
        have hs598 := World.grownBy.size g596
        replace E := E.grown g596 (fun k hk => by injection hk with hk; subst hk; omega)
        replace hB4 := hB4.grown g596 (by intro h; injection h with h; omega)
        replace hB11 := hB11.grown g596 (by intro h; injection h with h; omega)
        replace hB19 := hB19.grown g596 (by intro h; injection h with h; omega)
        replace hB460 := hB460.grown g596 (by intro h; injection h with h; omega)
        replace hT570 := hT570.grown g596 (by intro h; injection h with h; omega)
        replace hT585 := hT585.grown g596 (by intro h; injection h with h; omega)
        replace hB556 := hB597
        refine Sq.nil ?_
        refine Eq.goes (fun _ => ⟨hB4, hB11⟩) ?_
        refine Gq.one 7 rfl (by kernel_rfl) ?_
        refine Sq.store one60 .plain rfl rfl rfl hB460 (by simp) (fun w599 g600 hB601 => ?_)
        have hs602 := World.grownBy.size g600
        replace E := E.grown g600 (fun k hk => by injection hk with hk; subst hk; omega)
        replace hB4 := hB4.grown g600 (by intro h; injection h with h; omega)
        replace hB11 := hB11.grown g600 (by intro h; injection h with h; omega)
        replace hB19 := hB19.grown g600 (by intro h; injection h with h; omega)
        replace hB556 := hB556.grown g600 (by intro h; injection h with h; omega)
        replace hT570 := hT570.grown g600 (by intro h; injection h with h; omega)
        replace hT585 := hT585.grown g600 (by intro h; injection h with h; omega)
        replace hB460 := hB601
        refine Sq.nil ?_
        refine Eq.goes (fun h => absurd h (by decide)) ?_
        refine Gq.done (by kernel_rfl) ?_
        refine Eq.left _ ⟨b553, b457, _, _, _, _, rfl, hB556, hB460, hT570, hT585, hTab571, hTab586, by omega, E, hB4, hB11, hB19⟩ (.cons rfl (.cons rfl (.cons rfl (.cons rfl (.cons rfl (.cons rfl (.cons rfl (.nil))))))))
      rintro ls wc3 ⟨c8, c9, t1, t2, xs, ys0, rfl, hP1, hP2, hT1, hT2, hTab, hTab', hbb, E, hB4, hB11, hB19⟩
      have hs603 := Below.size E
      have hpal := prod_al hv hv'
      refine Eq.next ?_
      refine Cq.seq ?_
      refine Cq.region ?_
      refine Sq.loadB one60 .plain rfl rfl hP2 rfl ?_
      refine Sq.len .plain rfl und60 rfl ?_
      refine Sq.alloc1 zero3 rfl .plain rfl (fun b604 w605 e606 hB607 hlo608 => ?_)
      have hd609 := Nat.le_trans (Below.size E) hlo608
      have hd610 := Nat.lt_of_lt_of_le hB4.lt hlo608
      have hd611 := Nat.lt_of_lt_of_le hB11.lt hlo608
      have hd612 := Nat.lt_of_lt_of_le hB19.lt hlo608
      have hd613 := Nat.lt_of_lt_of_le hP1.lt hlo608
      have hd614 := Nat.lt_of_lt_of_le hP2.lt hlo608
      have hd615 := Nat.lt_of_lt_of_le hT1.lt hlo608
      have hd616 := Nat.lt_of_lt_of_le hT2.lt hlo608
      have hs617 := Below.size e606
      replace E := E.trans e606
      replace hB4 := hB4.ext e606
      replace hB11 := hB11.ext e606
      replace hB19 := hB19.ext e606
      replace hP1 := hP1.ext e606
      replace hP2 := hP2.ext e606
      replace hT1 := hT1.ext e606
      replace hT2 := hT2.ext e606
      refine Sq.store one3 .plain rfl rfl rfl hB607 (by simp) (fun w618 g619 hB620 => ?_)
      have hs621 := World.grownBy.size g619
      replace E := E.grown g619 (fun k hk => by injection hk with hk; subst hk; omega)
      replace hB4 := hB4.grown g619 (by intro h; injection h with h; omega)
      replace hB11 := hB11.grown g619 (by intro h; injection h with h; omega)
      replace hB19 := hB19.grown g619 (by intro h; injection h with h; omega)
      replace hP1 := hP1.grown g619 (by intro h; injection h with h; omega)
      replace hP2 := hP2.grown g619 (by intro h; injection h with h; omega)
      replace hT1 := hT1.grown g619 (by intro h; injection h with h; omega)
      replace hT2 := hT2.grown g619 (by intro h; injection h with h; omega)
      replace hB607 := hB620
      refine Sq.nil ?_
      refine Eq.next ?_
      refine Cq.seq ?_
      refine Cq.region ?_
      refine Sq.fieldAddr fld27_0 .plain rfl rfl ?_
      refine Sq.loadB one3 .plain rfl rfl hB4 rfl ?_
      refine Sq.fieldAddr fld27_0 .plain rfl rfl ?_
      refine Sq.loadB one3 .plain rfl rfl hB11 rfl ?_
      refine Sq.or .plain rfl rfl rfl (by have := (validA_spec.1 hv).1; have := (validA_spec.1 hv').1; omega) ?_
      refine Sq.build st27 rfl rfl .plain rfl rfl (one_cons rfl one_nil) rfl ?_
      refine Sq.alloc zero27 .plain rfl (fun b622 w623 e624 hB625 hlo626 => ?_)
      have hd627 := Nat.le_trans (Below.size E) hlo626
      have hd628 := Nat.lt_of_lt_of_le hB4.lt hlo626
      have hd629 := Nat.lt_of_lt_of_le hB11.lt hlo626
      have hd630 := Nat.lt_of_lt_of_le hB19.lt hlo626
      have hd631 := Nat.lt_of_lt_of_le hP1.lt hlo626
      have hd632 := Nat.lt_of_lt_of_le hP2.lt hlo626
      have hd633 := Nat.lt_of_lt_of_le hT1.lt hlo626
      have hd634 := Nat.lt_of_lt_of_le hT2.lt hlo626
      have hd635 := Nat.lt_of_lt_of_le hB607.lt hlo626
      have hs636 := Below.size e624
      replace E := E.trans e624
      replace hB4 := hB4.ext e624
      replace hB11 := hB11.ext e624
      replace hB19 := hB19.ext e624
      replace hP1 := hP1.ext e624
      replace hP2 := hP2.ext e624
      replace hT1 := hT1.ext e624
      replace hT2 := hT2.ext e624
      replace hB607 := hB607.ext e624
      refine Sq.storeAgg agg27 .plain rfl rfl (one_cons rfl (one_cons rfl (one_cons rfl one_nil))) hB625 rfl rfl (fun w637 g638 hB639 => ?_)
      have hs640 := World.grownBy.size g638
      replace E := E.grown g638 (fun k hk => by injection hk with hk; subst hk; omega)
      replace hB4 := hB4.grown g638 (by intro h; injection h with h; omega)
      replace hB11 := hB11.grown g638 (by intro h; injection h with h; omega)
      replace hB19 := hB19.grown g638 (by intro h; injection h with h; omega)
      replace hP1 := hP1.grown g638 (by intro h; injection h with h; omega)
      replace hP2 := hP2.grown g638 (by intro h; injection h with h; omega)
      replace hT1 := hT1.grown g638 (by intro h; injection h with h; omega)
      replace hT2 := hT2.grown g638 (by intro h; injection h with h; omega)
      replace hB607 := hB607.grown g638 (by intro h; injection h with h; omega)
      replace hB625 := hB639
      refine Sq.nil ?_
      refine Eq.next ?_
      refine Cq.seq ?_
      refine Cq.region ?_
      refine Sq.fieldAddr fld27_0 .plain rfl rfl ?_
      refine Sq.loadB one3 .plain rfl rfl hB625 rfl ?_
      have hd645 := hB4.lt
      have hd646 := hB11.lt
      have hd647 := hB19.lt
      have hd648 := hP1.lt
      have hd649 := hP2.lt
      have hd650 := hT1.lt
      have hd651 := hT2.lt
      have hd652 := hB607.lt
      have hd653 := hB625.lt
      refine Sq.call fn58 .plain rfl rfl (lettersOf_c (orI a.al b.al) (by omega) _) ?_
      rintro v641 w642 ⟨hl644, e643⟩
      have hs654 := Below.size E
      have hs655 := Below.size e643
      replace E := E.trans e643
      replace hB4 := hB4.ext e643
      replace hB11 := hB11.ext e643
      replace hB19 := hB19.ext e643
      replace hP1 := hP1.ext e643
      replace hP2 := hP2.ext e643
      replace hT1 := hT1.ext e643
      replace hT2 := hT2.ext e643
      replace hB607 := hB607.ext e643
      replace hB625 := hB625.ext e643
      refine Sq.makeFunc .plain rfl rfl ?_
      have hd664 := hB4.lt
      have hd665 := hB11.lt
      have hd666 := hB19.lt
      have hd667 := hP1.lt
      have hd668 := hP2.lt
      have hd669 := hT1.lt
      have hd670 := hT2.lt
      have hd671 := hB607.lt
      have hd672 := hB625.lt
      have hlet := letters_len6 (orI a.al b.al)
      refine Sq.call fn57 .plain rfl rfl (numbered_c _ (fP a b) 0 (letters (orI a.al b.al)) _ _ 12 (fun q => InP a b q) (by omega) (Own.row hl644) (by omega) (fun x hx => ⟨(mem_letters hx).1, (mem_letters hx).2.1⟩) (zero_inP hv hv') (fun q hq x hx => fP_in hv hv' hq ⟨(mem_letters hx).1, (mem_letters hx).2.1⟩) (fun i => Nat.le_trans (fP_bfs_len hv hv' _ i) (by omega)) ⟨59, _, [Value.pointer (some ⟨c8, 0, none⟩), Value.pointer (some ⟨b604, 0, none⟩), Value.pointer (some ⟨c9, 0, none⟩)], rfl, fn59, fun w q y0 hx hq hxx => prod1_c w q y0 a b _ _ _ _ _ _ _ (hP1.ext hx) (hB607.ext hx) (hP2.ext hx) (hT1.ext hx) (hT2.ext hx) hTab hTab' hv hv' hq hxx⟩) ?_
      rintro _ w657 ⟨⟨nv659, xv660, rfl, hn661, hx662⟩, e658⟩
      have hs673 := Below.size E
      have hs674 := Below.size e658
      replace E := E.trans e658
      replace hB4 := hB4.ext e658
      replace hB11 := hB11.ext e658
      replace hB19 := hB19.ext e658
      replace hB607 := hB607.ext e658
      replace hB625 := hB625.ext e658
      by_cases hl663 : ((((ord (fP a b) 0 (letters (orI a.al b.al))).length : Nat) : Int) ≤ 12)
      · rw [if_pos hl663] at hn661 hx662
        refine Sq.move .plain rfl rfl ?_
        refine Sq.extract .plain rfl rfl rfl ?_
        refine Sq.extract .plain rfl rfl rfl ?_
        refine Sq.extract .plain rfl rfl rfl ?_
        refine Sq.isT (hl663) ?_
        refine Sq.assign .plain rfl rfl ?_
        refine Sq.assign .plain rfl rfl ?_
        refine Sq.assign .plain rfl rfl ?_
        refine Sq.nil ?_
        refine Eq.next ?_
        refine Cq.seq ?_
        refine Cq.seq ?_
        refine Cq.region ?_
        refine Sq.move .plain rfl rfl ?_
        refine Sq.notT .plain rfl rfl ?_
        refine Sq.nil ?_
        refine Eq.next ?_
        refine Cq.els rfl ?_
        refine Cq.skip ?_
        refine Eq.next ?_
        refine Cq.seq ?_
        refine Cq.region ?_
        refine Sq.move .plain rfl rfl ?_
        refine Sq.fieldAddr fld27_1 .plain rfl rfl ?_
        refine Sq.store one22 .plain rfl rfl (Rows.one (OwnRows.rows hx662)) hB625 (by simp) (fun w675 g676 hB677 => ?_)
        have hs678 := World.grownBy.size g676
        replace E := E.grown g676 (fun k hk => by injection hk with hk; subst hk; omega)
        replace hB4 := hB4.grown g676 (by intro h; injection h with h; omega)
        replace hB11 := hB11.grown g676 (by intro h; injection h with h; omega)
        replace hB19 := hB19.grown g676 (by intro h; injection h with h; omega)
        replace hB607 := hB607.grown g676 (by intro h; injection h with h; omega)
        replace hn661 := hn661.stored g676 hB625 (by decide)
        replace hx662 := hx662.stored g676 hB625 (by decide) (by decide)
        replace hB625 := hB677
        refine Sq.nil ?_
        refine Eq.next ?_
        refine Cq.seq ?_
        refine Cq.seq ?_
        refine Cq.region ?_
        refine Sq.move .plain rfl rfl ?_
        refine Sq.lenInts (Own.row hn661) .plain rfl und52 rfl ?_
        refine Sq.move .plain rfl rfl ?_
        refine Sq.nil ?_
        refine Eq.next ?_
        refine Cq.block ?_
        have hz := zero_in hv'
        have hz2 := (validA_spec.1 hv').2
        have hz1 := (validA_spec.1 hv).2
        have h144 := le144 hv hv'
        have hall := ord_all (f := fP a b) (s := 0) (L := letters (orI a.al b.al)) (P := InP a b) (zero_inP hv hv') (fun q hq x hx => fP_in hv hv' hq ⟨(mem_letters hx).1, (mem_letters hx).2.1⟩)
        refine Cq.loop (fun nn w ls => ∃ (i : Int), ∃ (acv : Value), ∃ (ys : List Bool), ls = [(2, Value.int .i64 k), (3, Value.pointer (some ⟨b1, 0, none⟩)), (4, Value.pointer (some ⟨b8, 0, none⟩)), (6, Value.pointer (some ⟨b16, 0, none⟩)), (10, Value.pointer (some ⟨b604, 0, none⟩)), (11, Value.pointer (some ⟨b622, 0, none⟩)), (62, nv659), (63, Value.int .i64 ((List.length (ord (fP a b) 0 (letters (orI a.al b.al))) : Int))), (64, Value.int .i64 i)] ∧ (0 ≤ i ∧ i ≤ (ord (fP a b) 0 (letters (orI a.al b.al))).length) ∧ Blk w b622 27 [Value.int .i64 (orI a.al b.al), xv660, acv] ∧ Own w w0.heap.size 4 acv (ys.map Value.bool) ∧ ys = ((ord (fP a b) 0 (letters (orI a.al b.al))).take i.toNat).map (accP a b k) ∧ Ext w0 w ∧ Blk w b1 27 [Value.int .i64 a.al, nx, ac] ∧ Blk w b8 27 [Value.int .i64 b.al, nx', ac'] ∧ Blk w b16 27 [Value.int .i64 0, Value.slice none 0 0, Value.slice none 0 0] ∧ Blk w b604 3 [Value.int .i64 (List.length b.next : Int)] ∧ OwnRows w w642.heap.size w657.heap.size 52 3 xv660 ((ord (fP a b) 0 (letters (orI a.al b.al))).map (rowAt (fP a b) (letters (orI a.al b.al)) (ord (fP a b) 0 (letters (orI a.al b.al))))) ∧ Own w w642.heap.size 3 nv659 ((ord (fP a b) 0 (letters (orI a.al b.al))).map (Value.int .i64)) ∧ nn = (((ord (fP a b) 0 (letters (orI a.al b.al))).length : Int) - i).toNat) _ _ ⟨0, _, [], rfl, by omega, hB625, Own.nil _ _ _, rfl, E, hB4, hB11, hB19, hB607, hx662, hn661, rfl⟩ (.cons rfl (.cons rfl (.cons rfl (.cons rfl (.cons rfl (.cons rfl (.cons rfl (.cons rfl (.cons rfl (.nil)))))))))) ?_
        rintro nn wl1 ls ⟨i, acv, ys, rfl, hi, hBr, hoa, hys, E, hB4, hB11, hB19, hB607, hx662, hn661, rfl⟩
        have hs679 := Below.size E
        have hat : i < (ord (fP a b) 0 (letters (orI a.al b.al))).length → ((0 ≤ ((ord (fP a b) 0 (letters (orI a.al b.al))).getD i.toNat 0 / (List.length b.next : Int)) ∧ ((ord (fP a b) 0 (letters (orI a.al b.al))).getD i.toNat 0 / (List.length b.next : Int)) < (a.next.length : Int)) ∧ 0 ≤ ((ord (fP a b) 0 (letters (orI a.al b.al))).getD i.toNat 0 % (List.length b.next : Int)) ∧ ((ord (fP a b) 0 (letters (orI a.al b.al))).getD i.toNat 0 % (List.length b.next : Int)) < (List.length b.next : Int)) ∧ 0 ≤ (ord (fP a b) 0 (letters (orI a.al b.al))).getD i.toNat 0 ∧ (ord (fP a b) 0 (letters (orI a.al b.al))).getD i.toNat 0 ≤ 144 := fun h => by
          have h7 := hall _ (getD_mem (d := 0) (k := i.toNat) (by omega))
          exact ⟨inP_div hv' h7, h7.1, by have := h7.2; omega⟩
        have hyl : ys.length ≤ 20 := by rw [hys, List.length_map, List.length_take]; omega
        refine Cq.seq ?_
        refine Cq.region ?_
        refine Sq.lss .plain rfl rfl rfl ?_
        refine Sq.part (fun c680 => ?_) (fun c680 => ?_)
        · refine Sq.nil ?_
          refine Eq.next ?_
          refine Cq.seq ?_
          refine Cq.thn rfl ?_
          refine Cq.skip ?_
          refine Eq.next ?_
          refine Cq.seq ?_
          refine Cq.block ?_
          refine Cq.seq ?_
          refine Cq.region ?_
          refine Sq.idxInts sl52 one3 (Own.row hn661) .plain rfl rfl rfl .plain rfl rfl (by omega) (by omega) ?_
          refine Sq.assign .plain rfl rfl ?_
          refine Sq.nil ?_
          refine Eq.next ?_
          refine Cq.seq ?_
          refine Cq.drawS 15 (fun w' => Blk w' b1 27 [Value.int .i64 a.al, nx, ac] ∧ Blk w' b8 27 [Value.int .i64 b.al, nx', ac'] ∧ Blk w' b604 3 [Value.int .i64 (List.length b.next : Int)] ∧ Ext w0 w') mixed (⟨hB4, hB11, hB607, E⟩) (fun w681 e682 hS => ?_)
          clear hS
          have hs683 := Below.size e682
          replace E := E.trans e682
          replace hB4 := hB4.ext e682
          replace hB11 := hB11.ext e682
          replace hB19 := hB19.ext e682
          replace hB607 := hB607.ext e682
          replace hx662 := hx662.ext e682
          replace hn661 := hn661.ext e682
          replace hBr := hBr.ext e682
          replace hoa := hoa.ext e682
          refine Gq.st 0 rfl (by kernel_rfl) rfl .plain rfl (fun _ _ _ h => h) ⟨hB4, hB11, hB607, E⟩ (fun w' x => Still.fieldAddr fld27_2 rfl) ?_
          refine Gq.st 1 rfl (by kernel_rfl) rfl .plain rfl (fun _ _ _ h => h) ⟨hB4, hB11, hB607, E⟩ (fun w' x => Still.loadB one23 rfl x.1 rfl) ?_
          refine Gq.st 2 rfl (by kernel_rfl) rfl .plain rfl (fun _ _ _ h => h) ⟨hB4, hB11, hB607, E⟩ (fun w' x => Still.move rfl) ?_
          refine Gq.st 3 rfl (by kernel_rfl) rfl .plain rfl (fun _ _ _ h => h) ⟨hB4, hB11, hB607, E⟩ (fun w' x => Still.loadB one3 rfl x.2.2.1 rfl) ?_
          refine Gq.st 4 rfl (by kernel_rfl) rfl .plain rfl (fun _ _ _ h => h) ⟨hB4, hB11, hB607, E⟩ (fun w' x => Still.quo rfl rfl (by have := hat (by omega); omega)) ?_
          obtain ⟨p684, hp685_w681⟩ := Bools.at hac (i := ((ord (fP a b) 0 (letters (orI a.al b.al))).getD i.toNat 0) / (List.length b.next : Int)) (by have := hat (by omega); omega) (by have := hat (by omega); omega)
          refine Gq.st 5 rfl (by kernel_rfl) rfl .plain rfl (fun _ _ _ h => h) ⟨hB4, hB11, hB607, E⟩ (fun w' x => Still.at' sl23 hp685_w681 rfl rfl) ?_
          refine Gq.st 6 rfl (by kernel_rfl) rfl .plain rfl (fun _ _ _ h => h) ⟨hB4, hB11, hB607, E⟩ (fun w' x => Still.loadA one4 rfl (hp685_w681.ext (x.2.2.2)).1) ?_
          refine Gq.st 7 rfl (by kernel_rfl) rfl .plain rfl (fun _ _ _ h => h) ⟨hB4, hB11, hB607, E⟩ (fun w' x => Still.fieldAddr fld27_2 rfl) ?_
          refine Gq.st 8 rfl (by kernel_rfl) rfl .plain rfl (fun _ _ _ h => h) ⟨hB4, hB11, hB607, E⟩ (fun w' x => Still.loadB one23 rfl x.2.1 rfl) ?_
          refine Gq.st 9 rfl (by kernel_rfl) rfl .plain rfl (fun _ _ _ h => h) ⟨hB4, hB11, hB607, E⟩ (fun w' x => Still.move rfl) ?_
          refine Gq.st 10 rfl (by kernel_rfl) rfl .plain rfl (fun _ _ _ h => h) ⟨hB4, hB11, hB607, E⟩ (fun w' x => Still.loadB one3 rfl x.2.2.1 rfl) ?_
          refine Gq.st 11 rfl (by kernel_rfl) rfl .plain rfl (fun _ _ _ h => h) ⟨hB4, hB11, hB607, E⟩ (fun w' x => Still.rem rfl rfl (by have := hat (by omega); omega)) ?_
          obtain ⟨p686, hp687_w681⟩ := Bools.at hac' (i := ((ord (fP a b) 0 (letters (orI a.al b.al))).getD i.toNat 0) % (List.length b.next : Int)) (by have := hat (by omega); omega) (by have := hat (by omega); omega)
          refine Gq.st 12 rfl (by kernel_rfl) rfl .plain rfl (fun _ _ _ h => h) ⟨hB4, hB11, hB607, E⟩ (fun w' x => Still.at' sl23 hp687_w681 rfl rfl) ?_
          refine Gq.st 13 rfl (by kernel_rfl) rfl .plain rfl (fun _ _ _ h => h) ⟨hB4, hB11, hB607, E⟩ (fun w' x => Still.loadA one4 rfl (hp687_w681.ext (x.2.2.2)).1) ?_
          refine Gq.st 14 rfl (by kernel_rfl) rfl .plain rfl (fun _ _ _ h => h) ⟨hB4, hB11, hB607, E⟩ (fun w' x => Still.assign rfl) ?_
          refine Gq.one 15 rfl (by kernel_rfl) ?_
          refine Sq.assign .plain rfl rfl ?_
          refine Sq.nil ?_
          refine Eq.goes (fun h => absurd h (by decide)) ?_
          refine Gq.done (by kernel_rfl) ?_
          refine Eq.next ?_
          refine Cq.region ?_
          refine Sq.fieldAddr fld27_2 .plain rfl rfl ?_
          refine Sq.loadB one23 .plain rfl rfl hBr rfl ?_
          refine Sq.move .plain rfl rfl ?_
          refine Sq.eql .plain rfl rfl rfl ?_
          refine Sq.part (fun hk0 => ?_) (fun hk0 => ?_)
          · refine Sq.move .plain rfl rfl ?_
            refine Sq.move (.met rfl rfl rfl) rfl rfl ?_
            refine Sq.partB (fun hx1 => ?_) (fun hx1 => ?_)
            · refine Sq.pickT .plain rfl rfl rfl ?_
              refine Sq.move .plain rfl rfl ?_
              refine Sq.move (.met rfl rfl rfl) rfl rfl ?_
              refine Sq.partB (fun hy1 => ?_) (fun hy1 => ?_)
              · refine Sq.pickT .plain rfl rfl rfl ?_
                refine Sq.move .plain rfl rfl ?_
                refine Sq.off rfl rfl rfl rfl rfl rfl ?_
                refine Sq.off rfl rfl rfl rfl rfl rfl ?_
                refine Sq.off rfl rfl rfl rfl rfl rfl ?_
                refine Sq.offU rfl rfl rfl rfl rfl rfl ?_
                refine Sq.offU rfl rfl rfl rfl rfl rfl ?_
                refine Sq.offU rfl rfl rfl rfl rfl rfl ?_
                refine Sq.offU rfl rfl rfl rfl rfl rfl ?_
                refine Sq.off rfl rfl rfl rfl rfl rfl ?_
                refine Sq.pickT .plain rfl rfl rfl ?_
                refine Sq.move .plain rfl rfl ?_
                refine Sq.off rfl rfl rfl rfl rfl rfl ?_
                refine Sq.off rfl rfl rfl rfl rfl rfl ?_
                refine Sq.off rfl rfl rfl rfl rfl rfl ?_
                refine Sq.offU rfl rfl rfl rfl rfl rfl ?_
                refine Sq.off rfl rfl rfl rfl rfl rfl ?_
                refine Sq.off rfl rfl rfl rfl rfl rfl ?_
                refine Sq.offU rfl rfl rfl rfl rfl rfl ?_
                refine Sq.offU rfl rfl rfl rfl rfl rfl ?_
                refine Sq.off rfl rfl rfl rfl rfl rfl ?_
                refine Sq.pickT .plain rfl rfl rfl ?_
                refine Sq.app1 sl23 hoa (by omega) (by first | omega | (simp; omega)) .plain rfl rfl rfl rfl rfl rfl rfl (fun v688 w689 ho691 g690 _ => ?_)
                have hs692 := g690.size
                replace E := E.owned hoa g690 (by omega)
                replace hB4 := hB4.owned hoa g690 (by decide)
                replace hB11 := hB11.owned hoa g690 (by decide)
                replace hB19 := hB19.owned hoa g690 (by decide)
                replace hB607 := hB607.owned hoa g690 (by decide)
                replace hx662 := hx662.owned hoa g690 (by decide) (by decide)
                replace hn661 := hn661.owned hoa g690 (by decide)
                replace hBr := hBr.owned hoa g690 (by decide)
                refine Sq.fieldAddr fld27_2 .plain rfl rfl ?_
                refine Sq.store one23 .plain rfl rfl (Row.one (Own.row ho691)) hBr (by simp) (fun w693 g694 hB695 => ?_)
                have hs696 := World.grownBy.size g694
                replace E := E.grown g694 (fun k hk => by injection hk with hk; subst hk; omega)
                replace hB4 := hB4.grown g694 (by intro h; injection h with h; omega)
                replace hB11 := hB11.grown g694 (by intro h; injection h with h; omega)
                replace hB19 := hB19.grown g694 (by intro h; injection h with h; omega)
                replace hB607 := hB607.grown g694 (by intro h; injection h with h; omega)
                replace hx662 := hx662.stored g694 hBr (by decide) (by decide)
                replace hn661 := hn661.stored g694 hBr (by decide)
                replace ho691 := ho691.stored g694 hBr (by decide)
                replace hBr := hB695
                refine Sq.nil ?_
                refine Eq.end ?_
                refine Eq.next ?_
                refine Cq.region ?_
                refine Sq.add .plain rfl rfl rfl (by omega) ?_
                refine Sq.move .plain rfl rfl ?_
                refine Sq.nil ?_
                have e1 := toNat_succ hi.1
                refine Eq.round _ _ ⟨i + 1, _, _, rfl, by omega, hBr, Own.snocB ho691, by rw [e1, take_snoc 0 (by omega), List.map_append, ← hys]; congr 1; simp only [List.map_cons, List.map_nil, accP, kindB, accA, hk0, hx1, hy1]; first | done | rfl | simp, E, hB4, hB11, hB19, hB607, hx662, hn661, rfl⟩ (by omega) (.cons rfl (.cons rfl (.cons rfl (.cons rfl (.cons rfl (.cons rfl (.cons rfl (.cons rfl (.cons rfl (.nil))))))))))
              refine Sq.pickT .plain rfl rfl rfl ?_
              refine Sq.move .plain rfl rfl ?_
              refine Sq.move (.met rfl rfl rfl) rfl rfl ?_
              refine Sq.eql (.met rfl rfl rfl) rfl rfl rfl ?_
              refine Sq.isF (by omega) ?_
              refine Sq.move (.met rfl rfl rfl) rfl rfl ?_
              refine Sq.off rfl rfl rfl rfl rfl rfl ?_
              refine Sq.off rfl rfl rfl rfl rfl rfl ?_
              refine Sq.offU rfl rfl rfl rfl rfl rfl ?_
              refine Sq.off rfl rfl rfl rfl rfl rfl ?_
              refine Sq.pickF (.met rfl rfl rfl) rfl rfl rfl ?_
              refine Sq.pickF .plain rfl rfl rfl ?_
              refine Sq.move .plain rfl rfl ?_
              refine Sq.move (.met rfl rfl rfl) rfl rfl ?_
              refine Sq.eql (.met rfl rfl rfl) rfl rfl rfl ?_
              refine Sq.isF (by omega) ?_
              refine Sq.move (.met rfl rfl rfl) rfl rfl ?_
              refine Sq.off rfl rfl rfl rfl rfl rfl ?_
              refine Sq.pickF (.met rfl rfl rfl) rfl rfl rfl ?_
              refine Sq.move (.met rfl rfl rfl) rfl rfl ?_
              refine Sq.off rfl rfl rfl rfl rfl rfl ?_
              refine Sq.off rfl rfl rfl rfl rfl rfl ?_
              refine Sq.pickF (.met rfl rfl rfl) rfl rfl rfl ?_
              refine Sq.pickF .plain rfl rfl rfl ?_
              refine Sq.app1 sl23 hoa (by omega) (by first | omega | (simp; omega)) .plain rfl rfl rfl rfl rfl rfl rfl (fun v697 w698 ho700 g699 _ => ?_)
              have hs701 := g699.size
              replace E := E.owned hoa g699 (by omega)
              replace hB4 := hB4.owned hoa g699 (by decide)
              replace hB11 := hB11.owned hoa g699 (by decide)
              replace hB19 := hB19.owned hoa g699 (by decide)
              replace hB607 := hB607.owned hoa g699 (by decide)
              replace hx662 := hx662.owned hoa g699 (by decide) (by decide)
              replace hn661 := hn661.owned hoa g699 (by decide)
              replace hBr := hBr.owned hoa g699 (by decide)
              refine Sq.fieldAddr fld27_2 .plain rfl rfl ?_
              refine Sq.store one23 .plain rfl rfl (Row.one (Own.row ho700)) hBr (by simp) (fun w702 g703 hB704 => ?_)
              have hs705 := World.grownBy.size g703
              replace E := E.grown g703 (fun k hk => by injection hk with hk; subst hk; omega)
              replace hB4 := hB4.grown g703 (by intro h; injection h with h; omega)
              replace hB11 := hB11.grown g703 (by intro h; injection h with h; omega)
              replace hB19 := hB19.grown g703 (by intro h; injection h with h; omega)
              replace hB607 := hB607.grown g703 (by intro h; injection h with h; omega)
              replace hx662 := hx662.stored g703 hBr (by decide) (by decide)
              replace hn661 := hn661.stored g703 hBr (by decide)
              replace ho700 := ho700.stored g703 hBr (by decide)
              replace hBr := hB704
              refine Sq.nil ?_
              refine Eq.end ?_
              refine Eq.next ?_
              refine Cq.region ?_
              refine Sq.add .plain rfl rfl rfl (by omega) ?_
              refine Sq.move .plain rfl rfl ?_
              refine Sq.nil ?_
              have e1 := toNat_succ hi.1
              refine Eq.round _ _ ⟨i + 1, _, _, rfl, by omega, hBr, Own.snocB ho700, by rw [e1, take_snoc 0 (by omega), List.map_append, ← hys]; congr 1; simp only [List.map_cons, List.map_nil, accP, kindB, accA, hk0, hx1, hy1]; first | done | rfl | simp, E, hB4, hB11, hB19, hB607, hx662, hn661, rfl⟩ (by omega) (.cons rfl (.cons rfl (.cons rfl (.cons rfl (.cons rfl (.cons rfl (.cons rfl (.cons rfl (.cons rfl (.nil))))))))))
            refine Sq.pickT .plain rfl rfl rfl ?_
            refine Sq.move .plain rfl rfl ?_
            refine Sq.off rfl rfl rfl rfl rfl rfl ?_
            refine Sq.pickF .plain rfl rfl rfl ?_
            refine Sq.move .plain rfl rfl ?_
            refine Sq.move (.met rfl rfl rfl) rfl rfl ?_
            refine Sq.eql (.met rfl rfl rfl) rfl rfl rfl ?_
            refine Sq.isF (by omega) ?_
            refine Sq.move (.met rfl rfl rfl) rfl rfl ?_
            refine Sq.off rfl rfl rfl rfl rfl rfl ?_
            refine Sq.off rfl rfl rfl rfl rfl rfl ?_
            refine Sq.offU rfl rfl rfl rfl rfl rfl ?_
            refine Sq.off rfl rfl rfl rfl rfl rfl ?_
            refine Sq.pickF (.met rfl rfl rfl) rfl rfl rfl ?_
            refine Sq.pickF .plain rfl rfl rfl ?_
            refine Sq.move .plain rfl rfl ?_
            refine Sq.move (.met rfl rfl rfl) rfl rfl ?_
            refine Sq.eql (.met rfl rfl rfl) rfl rfl rfl ?_
            refine Sq.isF (by omega) ?_
            refine Sq.move (.met rfl rfl rfl) rfl rfl ?_
            refine Sq.off rfl rfl rfl rfl rfl rfl ?_
            refine Sq.pickF (.met rfl rfl rfl) rfl rfl rfl ?_
            refine Sq.move (.met rfl rfl rfl) rfl rfl ?_
            refine Sq.off rfl rfl rfl rfl rfl rfl ?_
            refine Sq.off rfl rfl rfl rfl rfl rfl ?_
            refine Sq.pickF (.met rfl rfl rfl) rfl rfl rfl ?_
            refine Sq.pickF .plain rfl rfl rfl ?_
            refine Sq.app1 sl23 hoa (by omega) (by first | omega | (simp; omega)) .plain rfl rfl rfl rfl rfl rfl rfl (fun v706 w707 ho709 g708 _ => ?_)
            have hs710 := g708.size
            replace E := E.owned hoa g708 (by omega)
            replace hB4 := hB4.owned hoa g708 (by decide)
            replace hB11 := hB11.owned hoa g708 (by decide)
            replace hB19 := hB19.owned hoa g708 (by decide)
            replace hB607 := hB607.owned hoa g708 (by decide)
            replace hx662 := hx662.owned hoa g708 (by decide) (by decide)
            replace hn661 := hn661.owned hoa g708 (by decide)
            replace hBr := hBr.owned hoa g708 (by decide)
            refine Sq.fieldAddr fld27_2 .plain rfl rfl ?_
            refine Sq.store one23 .plain rfl rfl (Row.one (Own.row ho709)) hBr (by simp) (fun w711 g712 hB713 => ?_)
            have hs714 := World.grownBy.size g712
            replace E := E.grown g712 (fun k hk => by injection hk with hk; subst hk; omega)
            replace hB4 := hB4.grown g712 (by intro h; injection h with h; omega)
            replace hB11 := hB11.grown g712 (by intro h; injection h with h; omega)
            replace hB19 := hB19.grown g712 (by intro h; injection h with h; omega)
            replace hB607 := hB607.grown g712 (by intro h; injection h with h; omega)
            replace hx662 := hx662.stored g712 hBr (by decide) (by decide)
            replace hn661 := hn661.stored g712 hBr (by decide)
            replace ho709 := ho709.stored g712 hBr (by decide)
            replace hBr := hB713
            refine Sq.nil ?_
            refine Eq.end ?_
            refine Eq.next ?_
            refine Cq.region ?_
            refine Sq.add .plain rfl rfl rfl (by omega) ?_
            refine Sq.move .plain rfl rfl ?_
            refine Sq.nil ?_
            have e1 := toNat_succ hi.1
            refine Eq.round _ _ ⟨i + 1, _, _, rfl, by omega, hBr, Own.snocB ho709, by rw [e1, take_snoc 0 (by omega), List.map_append, ← hys]; congr 1; simp only [List.map_cons, List.map_nil, accP, kindB, accA, hk0, hx1]; first | done | rfl | simp, E, hB4, hB11, hB19, hB607, hx662, hn661, rfl⟩ (by omega) (.cons rfl (.cons rfl (.cons rfl (.cons rfl (.cons rfl (.cons rfl (.cons rfl (.cons rfl (.cons rfl (.nil))))))))))
          refine Sq.move .plain rfl rfl ?_
          refine Sq.off rfl rfl rfl rfl rfl rfl ?_
          refine Sq.pickF .plain rfl rfl rfl ?_
          refine Sq.move .plain rfl rfl ?_
          refine Sq.off rfl rfl rfl rfl rfl rfl ?_
          refine Sq.pickF .plain rfl rfl rfl ?_
          refine Sq.move .plain rfl rfl ?_
          refine Sq.move (.met rfl rfl rfl) rfl rfl ?_
          refine Sq.eql (.met rfl rfl rfl) rfl rfl rfl ?_
          refine Sq.part (fun hk1 => ?_) (fun hk1 => ?_)
          · refine Sq.move (.met rfl rfl rfl) rfl rfl ?_
            refine Sq.move (.met rfl rfl rfl) rfl rfl ?_
            refine Sq.partB (fun hx2 => ?_) (fun hx2 => ?_)
            · refine Sq.move (.met rfl rfl rfl) rfl rfl ?_
              refine Sq.off rfl rfl rfl rfl rfl rfl ?_
              refine Sq.pickT (.met rfl rfl rfl) rfl rfl rfl ?_
              refine Sq.pickT (.met rfl rfl rfl) rfl rfl rfl ?_
              refine Sq.pickF .plain rfl rfl rfl ?_
              refine Sq.move .plain rfl rfl ?_
              refine Sq.off rfl rfl rfl rfl rfl rfl ?_
              refine Sq.off rfl rfl rfl rfl rfl rfl ?_
              refine Sq.off rfl rfl rfl rfl rfl rfl ?_
              refine Sq.offU rfl rfl rfl rfl rfl rfl ?_
              refine Sq.off rfl rfl rfl rfl rfl rfl ?_
              refine Sq.off rfl rfl rfl rfl rfl rfl ?_
              refine Sq.offU rfl rfl rfl rfl rfl rfl ?_
              refine Sq.offU rfl rfl rfl rfl rfl rfl ?_
              refine Sq.off rfl rfl rfl rfl rfl rfl ?_
              refine Sq.pickT .plain rfl rfl rfl ?_
              refine Sq.app1 sl23 hoa (by omega) (by first | omega | (simp; omega)) .plain rfl rfl rfl rfl rfl rfl rfl (fun v715 w716 ho718 g717 _ => ?_)
              have hs719 := g717.size
              replace E := E.owned hoa g717 (by omega)
              replace hB4 := hB4.owned hoa g717 (by decide)
              replace hB11 := hB11.owned hoa g717 (by decide)
              replace hB19 := hB19.owned hoa g717 (by decide)
              replace hB607 := hB607.owned hoa g717 (by decide)
              replace hx662 := hx662.owned hoa g717 (by decide) (by decide)
              replace hn661 := hn661.owned hoa g717 (by decide)
              replace hBr := hBr.owned hoa g717 (by decide)
              refine Sq.fieldAddr fld27_2 .plain rfl rfl ?_
              refine Sq.store one23 .plain rfl rfl (Row.one (Own.row ho718)) hBr (by simp) (fun w720 g721 hB722 => ?_)
              have hs723 := World.grownBy.size g721
              replace E := E.grown g721 (fun k hk => by injection hk with hk; subst hk; omega)
              replace hB4 := hB4.grown g721 (by intro h; injection h with h; omega)
              replace hB11 := hB11.grown g721 (by intro h; injection h with h; omega)
              replace hB19 := hB19.grown g721 (by intro h; injection h with h; omega)
              replace hB607 := hB607.grown g721 (by intro h; injection h with h; omega)
              replace hx662 := hx662.stored g721 hBr (by decide) (by decide)
              replace hn661 := hn661.stored g721 hBr (by decide)
              replace ho718 := ho718.stored g721 hBr (by decide)
              replace hBr := hB722
              refine Sq.nil ?_
              refine Eq.end ?_
              refine Eq.next ?_
              refine Cq.region ?_
              refine Sq.add .plain rfl rfl rfl (by omega) ?_
              refine Sq.move .plain rfl rfl ?_
              refine Sq.nil ?_
              have e1 := toNat_succ hi.1
              refine Eq.round _ _ ⟨i + 1, _, _, rfl, by omega, hBr, Own.snocB ho718, by rw [e1, take_snoc 0 (by omega), List.map_append, ← hys]; congr 1; simp only [List.map_cons, List.map_nil, accP, kindB, accA, hk0, hk1, hx2]; first | done | rfl | simp, E, hB4, hB11, hB19, hB607, hx662, hn661, rfl⟩ (by omega) (.cons rfl (.cons rfl (.cons rfl (.cons rfl (.cons rfl (.cons rfl (.cons rfl (.cons rfl (.cons rfl (.nil))))))))))
            refine Sq.move (.met rfl rfl rfl) rfl rfl ?_
            refine Sq.move (.met rfl rfl rfl) rfl rfl ?_
            refine Sq.partB (fun hy2 => ?_) (fun hy2 => ?_)
            · refine Sq.pickF (.met rfl rfl rfl) rfl rfl rfl ?_
              refine Sq.pickT (.met rfl rfl rfl) rfl rfl rfl ?_
              refine Sq.pickF .plain rfl rfl rfl ?_
              refine Sq.move .plain rfl rfl ?_
              refine Sq.off rfl rfl rfl rfl rfl rfl ?_
              refine Sq.off rfl rfl rfl rfl rfl rfl ?_
              refine Sq.off rfl rfl rfl rfl rfl rfl ?_
              refine Sq.offU rfl rfl rfl rfl rfl rfl ?_
              refine Sq.off rfl rfl rfl rfl rfl rfl ?_
              refine Sq.off rfl rfl rfl rfl rfl rfl ?_
              refine Sq.offU rfl rfl rfl rfl rfl rfl ?_
              refine Sq.offU rfl rfl rfl rfl rfl rfl ?_
              refine Sq.off rfl rfl rfl rfl rfl rfl ?_
              refine Sq.pickT .plain rfl rfl rfl ?_
              refine Sq.app1 sl23 hoa (by omega) (by first | omega | (simp; omega)) .plain rfl rfl rfl rfl rfl rfl rfl (fun v724 w725 ho727 g726 _ => ?_)
              have hs728 := g726.size
              replace E := E.owned hoa g726 (by omega)
              replace hB4 := hB4.owned hoa g726 (by decide)
              replace hB11 := hB11.owned hoa g726 (by decide)
              replace hB19 := hB19.owned hoa g726 (by decide)
              replace hB607 := hB607.owned hoa g726 (by decide)
              replace hx662 := hx662.owned hoa g726 (by decide) (by decide)
              replace hn661 := hn661.owned hoa g726 (by decide)
              replace hBr := hBr.owned hoa g726 (by decide)
              refine Sq.fieldAddr fld27_2 .plain rfl rfl ?_
              refine Sq.store one23 .plain rfl rfl (Row.one (Own.row ho727)) hBr (by simp) (fun w729 g730 hB731 => ?_)
              have hs732 := World.grownBy.size g730
              replace E := E.grown g730 (fun k hk => by injection hk with hk; subst hk; omega)
              replace hB4 := hB4.grown g730 (by intro h; injection h with h; omega)
              replace hB11 := hB11.grown g730 (by intro h; injection h with h; omega)
              replace hB19 := hB19.grown g730 (by intro h; injection h with h; omega)
              replace hB607 := hB607.grown g730 (by intro h; injection h with h; omega)
              replace hx662 := hx662.stored g730 hBr (by decide) (by decide)
              replace hn661 := hn661.stored g730 hBr (by decide)
              replace ho727 := ho727.stored g730 hBr (by decide)
              replace hBr := hB731
              refine Sq.nil ?_
              refine Eq.end ?_
              refine Eq.next ?_
              refine Cq.region ?_
              refine Sq.add .plain rfl rfl rfl (by omega) ?_
              refine Sq.move .plain rfl rfl ?_
              refine Sq.nil ?_
              have e1 := toNat_succ hi.1
              refine Eq.round _ _ ⟨i + 1, _, _, rfl, by omega, hBr, Own.snocB ho727, by rw [e1, take_snoc 0 (by omega), List.map_append, ← hys]; congr 1; simp only [List.map_cons, List.map_nil, accP, kindB, accA, hk0, hk1, hx2, hy2]; first | done | rfl | simp, E, hB4, hB11, hB19, hB607, hx662, hn661, rfl⟩ (by omega) (.cons rfl (.cons rfl (.cons rfl (.cons rfl (.cons rfl (.cons rfl (.cons rfl (.cons rfl (.cons rfl (.nil))))))))))
            refine Sq.pickF (.met rfl rfl rfl) rfl rfl rfl ?_
            refine Sq.pickT (.met rfl rfl rfl) rfl rfl rfl ?_
            refine Sq.pickF .plain rfl rfl rfl ?_
            refine Sq.move .plain rfl rfl ?_
            refine Sq.move (.met rfl rfl rfl) rfl rfl ?_
            refine Sq.eql (.met rfl rfl rfl) rfl rfl rfl ?_
            refine Sq.isF (by omega) ?_
            refine Sq.move (.met rfl rfl rfl) rfl rfl ?_
            refine Sq.off rfl rfl rfl rfl rfl rfl ?_
            refine Sq.pickF (.met rfl rfl rfl) rfl rfl rfl ?_
            refine Sq.move (.met rfl rfl rfl) rfl rfl ?_
            refine Sq.off rfl rfl rfl rfl rfl rfl ?_
            refine Sq.off rfl rfl rfl rfl rfl rfl ?_
            refine Sq.pickF (.met rfl rfl rfl) rfl rfl rfl ?_
            refine Sq.pickF .plain rfl rfl rfl ?_
            refine Sq.app1 sl23 hoa (by omega) (by first | omega | (simp; omega)) .plain rfl rfl rfl rfl rfl rfl rfl (fun v733 w734 ho736 g735 _ => ?_)
            have hs737 := g735.size
            replace E := E.owned hoa g735 (by omega)
            replace hB4 := hB4.owned hoa g735 (by decide)
            replace hB11 := hB11.owned hoa g735 (by decide)
            replace hB19 := hB19.owned hoa g735 (by decide)
            replace hB607 := hB607.owned hoa g735 (by decide)
            replace hx662 := hx662.owned hoa g735 (by decide) (by decide)
            replace hn661 := hn661.owned hoa g735 (by decide)
            replace hBr := hBr.owned hoa g735 (by decide)
            refine Sq.fieldAddr fld27_2 .plain rfl rfl ?_
            refine Sq.store one23 .plain rfl rfl (Row.one (Own.row ho736)) hBr (by simp) (fun w738 g739 hB740 => ?_)
            have hs741 := World.grownBy.size g739
            replace E := E.grown g739 (fun k hk => by injection hk with hk; subst hk; omega)
            replace hB4 := hB4.grown g739 (by intro h; injection h with h; omega)
            replace hB11 := hB11.grown g739 (by intro h; injection h with h; omega)
            replace hB19 := hB19.grown g739 (by intro h; injection h with h; omega)
            replace hB607 := hB607.grown g739 (by intro h; injection h with h; omega)
            replace hx662 := hx662.stored g739 hBr (by decide) (by decide)
            replace hn661 := hn661.stored g739 hBr (by decide)
            replace ho736 := ho736.stored g739 hBr (by decide)
            replace hBr := hB740
            refine Sq.nil ?_
            refine Eq.end ?_
            refine Eq.next ?_
            refine Cq.region ?_
            refine Sq.add .plain rfl rfl rfl (by omega) ?_
            refine Sq.move .plain rfl rfl ?_
            refine Sq.nil ?_
            have e1 := toNat_succ hi.1
            refine Eq.round _ _ ⟨i + 1, _, _, rfl, by omega, hBr, Own.snocB ho736, by rw [e1, take_snoc 0 (by omega), List.map_append, ← hys]; congr 1; simp only [List.map_cons, List.map_nil, accP, kindB, accA, hk0, hk1, hx2, hy2]; first | done | rfl | simp, E, hB4, hB11, hB19, hB607, hx662, hn661, rfl⟩ (by omega) (.cons rfl (.cons rfl (.cons rfl (.cons rfl (.cons rfl (.cons rfl (.cons rfl (.cons rfl (.cons rfl (.nil))))))))))
          refine Sq.move (.met rfl rfl rfl) rfl rfl ?_
          refine Sq.off rfl rfl rfl rfl rfl rfl ?_
          refine Sq.off rfl rfl rfl rfl rfl rfl ?_
          refine Sq.offU rfl rfl rfl rfl rfl rfl ?_
          refine Sq.off rfl rfl rfl rfl rfl rfl ?_
          refine Sq.pickF (.met rfl rfl rfl) rfl rfl rfl ?_
          refine Sq.pickF .plain rfl rfl rfl ?_
          refine Sq.move .plain rfl rfl ?_
          refine Sq.move (.met rfl rfl rfl) rfl rfl ?_
          refine Sq.eql (.met rfl rfl rfl) rfl rfl rfl ?_
          refine Sq.isT (by omega) ?_
          refine Sq.move (.met rfl rfl rfl) rfl rfl ?_
          refine Sq.move (.met rfl rfl rfl) rfl rfl ?_
          refine Sq.partB (fun hx3 => ?_) (fun hx3 => ?_)
          · refine Sq.pickT (.met rfl rfl rfl) rfl rfl rfl ?_
            refine Sq.move (.met rfl rfl rfl) rfl rfl ?_
            refine Sq.move (.met rfl rfl rfl) rfl rfl ?_
            refine Sq.not (.met rfl rfl rfl) rfl rfl ?_
            refine Sq.pickT (.met rfl rfl rfl) rfl rfl rfl ?_
            refine Sq.pickF .plain rfl rfl rfl ?_
            refine Sq.app1 sl23 hoa (by omega) (by first | omega | (simp; omega)) .plain rfl rfl rfl rfl rfl rfl rfl (fun v742 w743 ho745 g744 _ => ?_)
            have hs746 := g744.size
            replace E := E.owned hoa g744 (by omega)
            replace hB4 := hB4.owned hoa g744 (by decide)
            replace hB11 := hB11.owned hoa g744 (by decide)
            replace hB19 := hB19.owned hoa g744 (by decide)
            replace hB607 := hB607.owned hoa g744 (by decide)
            replace hx662 := hx662.owned hoa g744 (by decide) (by decide)
            replace hn661 := hn661.owned hoa g744 (by decide)
            replace hBr := hBr.owned hoa g744 (by decide)
            refine Sq.fieldAddr fld27_2 .plain rfl rfl ?_
            refine Sq.store one23 .plain rfl rfl (Row.one (Own.row ho745)) hBr (by simp) (fun w747 g748 hB749 => ?_)
            have hs750 := World.grownBy.size g748
            replace E := E.grown g748 (fun k hk => by injection hk with hk; subst hk; omega)
            replace hB4 := hB4.grown g748 (by intro h; injection h with h; omega)
            replace hB11 := hB11.grown g748 (by intro h; injection h with h; omega)
            replace hB19 := hB19.grown g748 (by intro h; injection h with h; omega)
            replace hB607 := hB607.grown g748 (by intro h; injection h with h; omega)
            replace hx662 := hx662.stored g748 hBr (by decide) (by decide)
            replace hn661 := hn661.stored g748 hBr (by decide)
            replace ho745 := ho745.stored g748 hBr (by decide)
            replace hBr := hB749
            refine Sq.nil ?_
            refine Eq.end ?_
            refine Eq.next ?_
            refine Cq.region ?_
            refine Sq.add .plain rfl rfl rfl (by omega) ?_
            refine Sq.move .plain rfl rfl ?_
            refine Sq.nil ?_
            have e1 := toNat_succ hi.1
            refine Eq.round _ _ ⟨i + 1, _, _, rfl, by omega, hBr, Own.snocB ho745, by rw [e1, take_snoc 0 (by omega), List.map_append, ← hys]; congr 1; simp only [List.map_cons, List.map_nil, accP, kindB, accA, hk0, hk1, hx3]; first | done | rfl | simp, E, hB4, hB11, hB19, hB607, hx662, hn661, rfl⟩ (by omega) (.cons rfl (.cons rfl (.cons rfl (.cons rfl (.cons rfl (.cons rfl (.cons rfl (.cons rfl (.cons rfl (.nil))))))))))
          refine Sq.pickT (.met rfl rfl rfl) rfl rfl rfl ?_
          refine Sq.move (.met rfl rfl rfl) rfl rfl ?_
          refine Sq.off rfl rfl rfl rfl rfl rfl ?_
          refine Sq.off rfl rfl rfl rfl rfl rfl ?_
          refine Sq.pickF (.met rfl rfl rfl) rfl rfl rfl ?_
          refine Sq.pickF .plain rfl rfl rfl ?_
          refine Sq.app1 sl23 hoa (by omega) (by first | omega | (simp; omega)) .plain rfl rfl rfl rfl rfl rfl rfl (fun v751 w752 ho754 g753 _ => ?_)
          have hs755 := g753.size
          replace E := E.owned hoa g753 (by omega)
          replace hB4 := hB4.owned hoa g753 (by decide)
          replace hB11 := hB11.owned hoa g753 (by decide)
          replace hB19 := hB19.owned hoa g753 (by decide)
          replace hB607 := hB607.owned hoa g753 (by decide)
          replace hx662 := hx662.owned hoa g753 (by decide) (by decide)
          replace hn661 := hn661.owned hoa g753 (by decide)
          replace hBr := hBr.owned hoa g753 (by decide)
          refine Sq.fieldAddr fld27_2 .plain rfl rfl ?_
          refine Sq.store one23 .plain rfl rfl (Row.one (Own.row ho754)) hBr (by simp) (fun w756 g757 hB758 => ?_)
          have hs759 := World.grownBy.size g757
          replace E := E.grown g757 (fun k hk => by injection hk with hk; subst hk; omega)
          replace hB4 := hB4.grown g757 (by intro h; injection h with h; omega)
          replace hB11 := hB11.grown g757 (by intro h; injection h with h; omega)
          replace hB19 := hB19.grown g757 (by intro h; injection h with h; omega)
          replace hB607 := hB607.grown g757 (by intro h; injection h with h; omega)
          replace hx662 := hx662.stored g757 hBr (by decide) (by decide)
          replace hn661 := hn661.stored g757 hBr (by decide)
          replace ho754 := ho754.stored g757 hBr (by decide)
          replace hBr := hB758
          refine Sq.nil ?_
          refine Eq.end ?_
          refine Eq.next ?_
          refine Cq.region ?_
          refine Sq.add .plain rfl rfl rfl (by omega) ?_
          refine Sq.move .plain rfl rfl ?_
          refine Sq.nil ?_
          have e1 := toNat_succ hi.1
          refine Eq.round _ _ ⟨i + 1, _, _, rfl, by omega, hBr, Own.snocB ho754, by rw [e1, take_snoc 0 (by omega), List.map_append, ← hys]; congr 1; simp only [List.map_cons, List.map_nil, accP, kindB, accA, hk0, hk1, hx3]; first | done | rfl | simp, E, hB4, hB11, hB19, hB607, hx662, hn661, rfl⟩ (by omega) (.cons rfl (.cons rfl (.cons rfl (.cons rfl (.cons rfl (.cons rfl (.cons rfl (.cons rfl (.cons rfl (.nil))))))))))
        refine Sq.nil ?_
        refine Eq.next ?_
        refine Cq.seq ?_
        refine Cq.els rfl ?_
        refine Cq.exit ?_
        refine Eq.past ?_
        refine Eq.past ?_
        refine Eq.hit ?_
        refine Eq.next ?_
        refine Cq.seq ?_
        refine Cq.region ?_
        refine Sq.loadAgg agg27 .plain rfl rfl hBr rfl ?_
        refine Sq.storeAgg agg27 .plain rfl rfl (one_cons rfl (one_cons (Rows.one (OwnRows.rows hx662)) (one_cons (Row.one (Own.row hoa)) one_nil))) hB19 rfl rfl (fun w760 g761 hB762 => ?_)
        have hs763 := World.grownBy.size g761
        replace E := E.grown g761 (fun k hk => by injection hk with hk; subst hk; omega)
        replace hx662 := hx662.stored g761 hB19 (by decide) (by decide)
        replace hoa := hoa.stored g761 hB19 (by decide)
        replace hB19 := hB762
        refine Sq.assign .plain rfl rfl ?_
        refine Sq.nil ?_
        refine Eq.next ?_
        refine Cq.ret ?_
        refine Eq.retCell2 rfl rfl agg27 hB19 rfl rfl ?_
        have hok := prodOk_len hv hv' (k := k) (by omega) hl663
        have e : prodA a b k = (⟨(orI a.al b.al), ((ord (fP a b) 0 (letters (orI a.al b.al))).map (rowAt (fP a b) (letters (orI a.al b.al)) (ord (fP a b) 0 (letters (orI a.al b.al))))), ys⟩ : A) := by rw [← numP hv hv', hys, List.take_of_length_le (by omega)]; unfold num; rfl
        exact ⟨⟨_, by rw [hok], by rw [if_pos hok, e]; exact ⟨_, _, rfl, OwnRows.now (OwnRows.mono hx662 (by omega)), hoa⟩⟩, E⟩
      rw [if_neg hl663] at hn661 hx662
      refine Sq.move .plain rfl rfl ?_
      refine Sq.extract .plain rfl rfl rfl ?_
      refine Sq.extract .plain rfl rfl rfl ?_
      refine Sq.extract .plain rfl rfl rfl ?_
      refine Sq.isF (hl663) ?_
      refine Sq.assign .plain rfl rfl ?_
      refine Sq.assign .plain rfl rfl ?_
      refine Sq.assign .plain rfl rfl ?_
      refine Sq.nil ?_
      refine Eq.next ?_
      refine Cq.seq ?_
      refine Cq.seq ?_
      refine Cq.region ?_
      refine Sq.move .plain rfl rfl ?_
      refine Sq.notF .plain rfl rfl ?_
      refine Sq.nil ?_
      refine Eq.next ?_
      refine Cq.thn rfl ?_
      refine Cq.seq ?_
      refine Cq.region ?_
      refine Sq.build st27 rfl rfl .plain rfl rfl one_nil rfl ?_
      refine Sq.storeAgg agg27 .plain rfl rfl (one_cons rfl (one_cons rfl (one_cons rfl one_nil))) hB19 rfl rfl (fun w764 g765 hB766 => ?_)
      have hs767 := World.grownBy.size g765
      replace E := E.grown g765 (fun k hk => by injection hk with hk; subst hk; omega)
      replace hB19 := hB766
      refine Sq.assign .plain rfl rfl ?_
      refine Sq.nil ?_
      refine Eq.next ?_
      refine Cq.ret ?_
      refine Eq.pastRet ?_
      refine Eq.retCell2 rfl rfl agg27 hB19 rfl rfl ?_
      have hno : prodOk a b k = false := prodOk_big hv hv' hl663
      exact ⟨⟨_, by rw [hno], by rw [if_neg (by rw [hno]; decide)]; exact ⟨_, _, rfl, OwnRows.nil _ _ _ _ _, Own.nil _ _ _⟩⟩, E⟩
    refine Sq.notF (.met rfl rfl rfl) rfl rfl ?_
    refine Sq.pickF .plain rfl rfl rfl ?_
    refine Sq.move .plain rfl rfl ?_
    refine Sq.off rfl rfl rfl rfl rfl rfl ?_
    refine Sq.off rfl rfl rfl rfl rfl rfl ?_
    refine Sq.pickT .plain rfl rfl rfl ?_
    refine Sq.move .plain rfl rfl ?_
    refine Sq.off rfl rfl rfl rfl rfl rfl ?_
    refine Sq.off rfl rfl rfl rfl rfl rfl ?_
    refine Sq.pickT .plain rfl rfl rfl ?_
    refine Sq.nil ?_
    refine Eq.next ?_
    refine Cq.thn rfl ?_
    refine Cq.seq ?_
    refine Cq.region ?_
    refine Sq.build st27 rfl rfl .plain rfl rfl one_nil rfl ?_
    refine Sq.storeAgg agg27 .plain rfl rfl (one_cons rfl (one_cons rfl (one_cons rfl one_nil))) hB19 rfl rfl (fun w768 g769 hB770 => ?_)
    have hs771 := World.grownBy.size g769
    replace E := E.grown g769 (fun k hk => by injection hk with hk; subst hk; omega)
    replace hB19 := hB770
    refine Sq.assign .plain rfl rfl ?_
    refine Sq.nil ?_
    refine Eq.next ?_
    refine Cq.ret ?_
    refine Eq.pastRet ?_
    refine Eq.retCell2 rfl rfl agg27 hB19 rfl rfl ?_
    have hno : prodOk a b k = false := prodOk_no (.inr (.inl hv'))
    exact ⟨⟨_, by rw [hno], by rw [if_neg (by rw [hno]; decide)]; exact ⟨_, _, rfl, OwnRows.nil _ _ _ _ _, Own.nil _ _ _⟩⟩, E⟩
  refine Sq.notF .plain rfl rfl ?_
  refine Sq.move .plain rfl rfl ?_
  refine Sq.off rfl rfl rfl rfl rfl rfl ?_
  refine Sq.off rfl rfl rfl rfl rfl rfl ?_
  refine Sq.off rfl rfl rfl rfl rfl rfl ?_
  refine Sq.pickT .plain rfl rfl rfl ?_
  refine Sq.move .plain rfl rfl ?_
  refine Sq.off rfl rfl rfl rfl rfl rfl ?_
  refine Sq.off rfl rfl rfl rfl rfl rfl ?_
  refine Sq.pickT .plain rfl rfl rfl ?_
  refine Sq.move .plain rfl rfl ?_
  refine Sq.off rfl rfl rfl rfl rfl rfl ?_
  refine Sq.off rfl rfl rfl rfl rfl rfl ?_
  refine Sq.pickT .plain rfl rfl rfl ?_
  refine Sq.nil ?_
  refine Eq.next ?_
  refine Cq.thn rfl ?_
  refine Cq.seq ?_
  refine Cq.region ?_
  refine Sq.build st27 rfl rfl .plain rfl rfl one_nil rfl ?_
  refine Sq.storeAgg agg27 .plain rfl rfl (one_cons rfl (one_cons rfl (one_cons rfl one_nil))) hB19 rfl rfl (fun w772 g773 hB774 => ?_)
  have hs775 := World.grownBy.size g773
  replace E := E.grown g773 (fun k hk => by injection hk with hk; subst hk; omega)
  replace hB19 := hB774
  refine Sq.assign .plain rfl rfl ?_
  refine Sq.nil ?_
  refine Eq.next ?_
  refine Cq.ret ?_
  refine Eq.pastRet ?_
  refine Eq.retCell2 rfl rfl agg27 hB19 rfl rfl ?_
  have hno : prodOk a b k = false := prodOk_no (.inl hv)
  exact ⟨⟨_, by rw [hno], by rw [if_neg (by rw [hno]; decide)]; exact ⟨_, _, rfl, OwnRows.nil _ _ _ _ _, Own.nil _ _ _⟩⟩, E⟩
theorem prod_c_T (w0 : World) (a b : A) (nx ac nx' ac' : Value) (hnx : Rows w0 52 3 nx a.next) (hac : Bools w0 4 ac a.acc) (hnx' : Rows w0 52 3 nx' b.next) (hac' : Bools w0 4 ac' b.acc) (k : Int) (hC : prodOk a b k = true) : Ret Try.prog 21 #[Value.agg #[Value.int .i64 a.al, nx, ac], Value.agg #[Value.int .i64 b.al, nx', ac'], Value.int .i64 k] w0 (fun v w => (∃ u, v = .tuple #[u, .bool true] ∧ OwnA w w0.heap.size u (prodA a b k)) ∧ Ext w0 w) :=
  (prod_c w0 a b nx ac nx' ac' hnx hac hnx' hac' k).mono fun v w h => by rw [hC, if_pos rfl] at h; exact h
theorem prod_c_F (w0 : World) (a b : A) (nx ac nx' ac' : Value) (hnx : Rows w0 52 3 nx a.next) (hac : Bools w0 4 ac a.acc) (hnx' : Rows w0 52 3 nx' b.next) (hac' : Bools w0 4 ac' b.acc) (k : Int) (hC : prodOk a b k = false) : Ret Try.prog 21 #[Value.agg #[Value.int .i64 a.al, nx, ac], Value.agg #[Value.int .i64 b.al, nx', ac'], Value.int .i64 k] w0 (fun v w => (∃ u, v = .tuple #[u, .bool false] ∧ OwnA w w0.heap.size u (zeroA)) ∧ Ext w0 w) :=
  (prod_c w0 a b nx ac nx' ac' hnx hac hnx' hac' k).mono fun v w h => by rw [hC, if_neg (by decide)] at h; exact h
end Go.Proofs.Ytdkdpmmfebdeaaa
set_option linter.unusedSimpArgs false
set_option linter.unusedVariables false
namespace Go.Proofs.Ytdkdpmmfebdeaaa
open Go.RowKit
set_option maxHeartbeats 1000000 in
set_option maxRecDepth 100000 in
theorem lExProd (w0 : World) (a b : A) (nx ac nx' ac' : Value) (hnx : RowsX w0 nx a.next) (hac : BoolsX w0 ac a.acc) (hnx' : RowsX w0 nx' b.next) (hac' : BoolsX w0 ac' b.acc) (k : Int) : Ret Try.prog 4 #[Value.agg #[Value.int .i64 a.al, nx, ac], Value.agg #[Value.int .i64 b.al, nx', ac'], Value.int .i64 k] w0 (fun v w => v = .bool true ∧ Ext w0 w) := by
  have E := Ext.refl w0
  refine Ret.of (args := [Value.agg #[Value.int .i64 a.al, nx, ac], Value.agg #[Value.int .i64 b.al, nx', ac'], Value.int .i64 k]) Try.func4 rfl rfl rfl ?_
  rintro _ rfl
  show Cq _ _ _ _ [(0, Value.agg #[Value.int .i64 a.al, nx, ac]), (1, Value.agg #[Value.int .i64 b.al, nx', ac']), (2, Value.int .i64 k)] _
  refine Cq.seq ?_
  refine Cq.region ?_
  refine Sq.box .plain rfl rfl (fun b1 w2 e3 hB4 hlo5 => ?_)
  have hd6 := Nat.le_trans (Below.size E) hlo5
  have hs7 := Below.size e3
  replace E := E.trans e3
  refine Sq.box .plain rfl rfl (fun b8 w9 e10 hB11 hlo12 => ?_)
  have hd13 := Nat.le_trans (Below.size E) hlo12
  have hd14 := Nat.lt_of_lt_of_le hB4.lt hlo12
  have hs15 := Below.size e10
  replace E := E.trans e10
  replace hB4 := hB4.ext e10
  refine Sq.assign .plain rfl rfl ?_
  refine Sq.nil ?_
  refine Eq.next ?_
  refine Cq.seq ?_
  refine Cq.region ?_
  refine Sq.assign .plain rfl rfl ?_
  refine Sq.nil ?_
  refine Eq.next ?_
  refine Cq.seq ?_
  refine Cq.region ?_
  refine Sq.loadAgg agg25 .plain rfl rfl hB4 rfl ?_
  refine Sq.move .plain rfl rfl ?_
  have hd22 := hB4.lt
  have hd23 := hB11.lt
  refine Sq.call fn13 .plain rfl rfl (szA_c _ a _ _ (hnx.ext E) (hac.ext E) 1048576 (by omega)) ?_
  rintro _ w17 ⟨⟨z19, rfl, hz20, hsm21⟩, e18⟩
  have hs24 := Below.size E
  have hs25 := Below.size e18
  replace E := E.trans e18
  replace hB4 := hB4.ext e18
  replace hB11 := hB11.ext e18
  refine Sq.assign .plain rfl rfl ?_
  refine Sq.nil ?_
  refine Eq.next ?_
  refine Cq.seq ?_
  refine Cq.seq ?_
  refine Cq.region ?_
  refine Sq.move .plain rfl rfl ?_
  refine Sq.lss .plain rfl rfl rfl ?_
  refine Sq.part (fun c26 => ?_) (fun c26 => ?_)
  · refine Sq.nil ?_
    refine Eq.next ?_
    refine Cq.thn rfl ?_
    refine Cq.seq ?_
    refine Cq.region ?_
    refine Sq.assign .plain rfl rfl ?_
    refine Sq.nil ?_
    refine Eq.next ?_
    refine Cq.ret ?_
    refine Eq.pastRet ?_
    refine Eq.ret1 rfl rfl ?_
    exact ⟨rfl, E⟩
  refine Sq.nil ?_
  refine Eq.next ?_
  refine Cq.els rfl ?_
  refine Cq.skip ?_
  refine Eq.next ?_
  refine Cq.seq ?_
  refine Cq.region ?_
  refine Sq.loadAgg agg25 .plain rfl rfl hB11 rfl ?_
  refine Sq.move .plain rfl rfl ?_
  have hd33 := hB4.lt
  have hd34 := hB11.lt
  refine Sq.call fn13 .plain rfl rfl (szA_c _ b _ _ (hnx'.ext E) (hac'.ext E) z19 (by omega)) ?_
  rintro _ w28 ⟨⟨z30, rfl, hz31, hsm32⟩, e29⟩
  have hs35 := Below.size E
  have hs36 := Below.size e29
  replace E := E.trans e29
  replace hB4 := hB4.ext e29
  replace hB11 := hB11.ext e29
  refine Sq.assign .plain rfl rfl ?_
  refine Sq.nil ?_
  refine Eq.next ?_
  refine Cq.seq ?_
  refine Cq.seq ?_
  refine Cq.region ?_
  refine Sq.move .plain rfl rfl ?_
  refine Sq.lss .plain rfl rfl rfl ?_
  refine Sq.part (fun c37 => ?_) (fun c37 => ?_)
  · refine Sq.nil ?_
    refine Eq.next ?_
    refine Cq.thn rfl ?_
    refine Cq.seq ?_
    refine Cq.region ?_
    refine Sq.assign .plain rfl rfl ?_
    refine Sq.nil ?_
    refine Eq.next ?_
    refine Cq.ret ?_
    refine Eq.pastRet ?_
    refine Eq.ret1 rfl rfl ?_
    exact ⟨rfl, E⟩
  refine Sq.nil ?_
  refine Eq.next ?_
  refine Cq.els rfl ?_
  refine Cq.skip ?_
  refine Eq.next ?_
  refine Cq.seq ?_
  refine Cq.cut (fun ls w => ∃ (bW : Nat), ∃ (nxw : Value), ∃ (acw : Value), ∃ (W0 : A), ∃ (okb : Bool), ls = [(2, Value.int .i64 k), (3, Value.pointer (some ⟨b1, 0, none⟩)), (4, Value.pointer (some ⟨b8, 0, none⟩)), (8, Value.pointer (some ⟨bW, 0, none⟩)), (9, Value.bool okb)] ∧ Blk w bW 27 [Value.int .i64 W0.al, nxw, acw] ∧ Rows w 52 3 nxw W0.next ∧ Bools w 4 acw W0.acc ∧ ((okb = true ∧ W0 = prodA a b k ∧ prodOk a b k = true) ∨ (okb = false ∧ W0 = zeroA ∧ prodOk a b k = false)) ∧ Ext w0 w ∧ Blk w b1 25 [Value.int .i64 a.al, nx, ac] ∧ Blk w b8 25 [Value.int .i64 b.al, nx', ac']) ?_ ?_
  · refine Cq.drawS 11 (fun w' => Blk w' b1 25 [Value.int .i64 a.al, nx, ac] ∧ Blk w' b8 25 [Value.int .i64 b.al, nx', ac']) mixed (⟨hB4, hB11⟩) (fun w38 e39 hS => ?_)
    clear hS
    have hs40 := Below.size e39
    replace E := E.trans e39
    replace hB4 := hB4.ext e39
    replace hB11 := hB11.ext e39
    refine Gq.st 0 rfl (by kernel_rfl) rfl .plain rfl (fun _ _ _ h => h) ⟨hB4, hB11⟩ (fun w' x => Still.loadAgg agg25 rfl x.1 rfl) ?_
    refine Gq.st 2 rfl (by kernel_rfl) rfl .plain rfl (fun _ _ _ h => h) ⟨hB4, hB11⟩ (fun w' x => Still.loadAgg agg25 rfl x.2 rfl) ?_
    refine Gq.st 4 rfl (by kernel_rfl) rfl .plain rfl (fun _ _ _ h => h) ⟨hB4, hB11⟩ (fun w' x => Still.move rfl) ?_
    refine Gq.two 1 9 rfl rfl (by kernel_rfl) ?_ ?_
    · have hd48 := hB4.lt
      have hd49 := hB11.lt
      refine Sq.call fn15 .plain rfl rfl (toA_c _ a _ _ (hnx.ext E) (hac.ext E) (hsm21 (by omega)).2) ?_
      rintro _ w42 ⟨⟨nx44, ac45, rfl, hn46, ha47⟩, e43⟩
      have hs50 := Below.size E
      have hs51 := Below.size e43
      replace E := E.trans e43
      replace hB4 := hB4.ext e43
      replace hB11 := hB11.ext e43
      have hl_ha47 := Own.low ha47
      refine Sq.nil ?_
      refine Eq.goes (fun _ => ⟨hB4, hB11⟩) ?_
      refine Gq.two 3 9 rfl rfl (by kernel_rfl) ?_ ?_
      · have hd59 := hB4.lt
        have hd60 := hB11.lt
        refine Sq.call fn15 .plain rfl rfl (toA_c _ b _ _ (hnx'.ext E) (hac'.ext E) (hsm32 (by omega)).2) ?_
        rintro _ w53 ⟨⟨nx55, ac56, rfl, hn57, ha58⟩, e54⟩
        have hs61 := Below.size E
        have hs62 := Below.size e54
        replace E := E.trans e54
        replace hB4 := hB4.ext e54
        replace hB11 := hB11.ext e54
        replace hn46 := hn46.ext e54
        replace ha47 := ha47.ext e54
        have hl_ha58 := Own.low ha58
        refine Sq.nil ?_
        refine Eq.goes (fun _ => ⟨hB4, hB11⟩) ?_
        refine Gq.two 5 9 rfl rfl (by kernel_rfl) ?_ ?_
        · rcases Bool.eq_false_or_eq_true (prodOk a b k) with hC | hC
          · obtain ⟨hv, hv', hk, hl12⟩ := prodOk_spec.1 hC
            have hd69 := hB4.lt
            have hd70 := hB11.lt
            refine Sq.call fn20 .plain rfl rfl (sProd_c_T _ a b _ _ _ _ (OwnRows.rows hn46) (Own.row ha47) (OwnRows.rows hn57) (Own.row ha58) k hC) ?_
            rintro _ w63 ⟨⟨_, rfl, nx65, ac66, rfl, hn67, ha68⟩, e64⟩
            have hs71 := Below.size E
            have hs72 := Below.size e64
            replace E := E.trans e64
            replace hB4 := hB4.ext e64
            replace hB11 := hB11.ext e64
            have hl_ha68 := Own.low ha68
            refine Sq.nil ?_
            refine Eq.goes (fun _ => ⟨hB4, hB11⟩) ?_
            refine Gq.st 6 rfl (by kernel_rfl) rfl .plain rfl (fun _ _ _ h => h) ⟨hB4, hB11⟩ (fun w' x => Still.move rfl) ?_
            refine Gq.st 7 rfl (by kernel_rfl) rfl .plain rfl (fun _ _ _ h => h) ⟨hB4, hB11⟩ (fun w' x => Still.extract rfl rfl) ?_
            refine Gq.st 8 rfl (by kernel_rfl) rfl .plain rfl (fun _ _ _ h => h) ⟨hB4, hB11⟩ (fun w' x => Still.extract rfl rfl) ?_
            refine Gq.one 9 rfl (by kernel_rfl) ?_
            refine Sq.alloc zero27 .plain rfl (fun b73 w74 e75 hB76 hlo77 => ?_)
            have hd78 := Nat.le_trans (Below.size E) hlo77
            have hd79 := Nat.lt_of_lt_of_le hB4.lt hlo77
            have hd80 := Nat.lt_of_lt_of_le hB11.lt hlo77
            have hs81 := Below.size e75
            replace E := E.trans e75
            replace hB4 := hB4.ext e75
            replace hB11 := hB11.ext e75
            replace hn67 := hn67.ext e75
            replace ha68 := ha68.ext e75
            refine Sq.nil ?_
            refine Eq.goes (fun _ => ⟨hB4, hB11⟩) ?_
            refine Gq.one 10 rfl (by kernel_rfl) ?_
            refine Sq.storeAgg agg27 .plain rfl rfl (one_cons rfl (one_cons (Rows.one (OwnRows.rows hn67)) (one_cons (Row.one (Own.row ha68)) one_nil))) hB76 rfl rfl (fun w82 g83 hB84 => ?_)
            have hs85 := World.grownBy.size g83
            replace E := E.grown g83 (fun k hk => by injection hk with hk; subst hk; omega)
            replace hB4 := hB4.grown g83 (by intro h; injection h with h; omega)
            replace hB11 := hB11.grown g83 (by intro h; injection h with h; omega)
            replace hn67 := hn67.stored g83 hB76 (by decide) (by decide)
            replace ha68 := ha68.stored g83 hB76 (by decide)
            replace hB76 := hB84
            refine Sq.nil ?_
            refine Eq.goes (fun _ => ⟨hB4, hB11⟩) ?_
            refine Gq.one 11 rfl (by kernel_rfl) ?_
            refine Sq.assign .plain rfl rfl ?_
            refine Sq.nil ?_
            refine Eq.goes (fun h => absurd h (by decide)) ?_
            refine Gq.done (by kernel_rfl) ?_
            refine Eq.left _ ⟨b73, nx65, ac66, (prodA a b k), true, rfl, hB76, (OwnRows.rows hn67), (Own.row ha68), .inl ⟨rfl, rfl, hC⟩, E, hB4, hB11⟩ (.cons rfl (.cons rfl (.cons rfl (.cons rfl (.cons rfl (.nil))))))
          have hd92 := hB4.lt
          have hd93 := hB11.lt
          refine Sq.call fn20 .plain rfl rfl (sProd_c_F _ a b _ _ _ _ (OwnRows.rows hn46) (Own.row ha47) (OwnRows.rows hn57) (Own.row ha58) k hC) ?_
          rintro _ w86 ⟨⟨_, rfl, nx88, ac89, rfl, hn90, ha91⟩, e87⟩
          have hs94 := Below.size E
          have hs95 := Below.size e87
          replace E := E.trans e87
          replace hB4 := hB4.ext e87
          replace hB11 := hB11.ext e87
          have hl_ha91 := Own.low ha91
          refine Sq.nil ?_
          refine Eq.goes (fun _ => ⟨hB4, hB11⟩) ?_
          refine Gq.st 6 rfl (by kernel_rfl) rfl .plain rfl (fun _ _ _ h => h) ⟨hB4, hB11⟩ (fun w' x => Still.move rfl) ?_
          refine Gq.st 7 rfl (by kernel_rfl) rfl .plain rfl (fun _ _ _ h => h) ⟨hB4, hB11⟩ (fun w' x => Still.extract rfl rfl) ?_
          refine Gq.st 8 rfl (by kernel_rfl) rfl .plain rfl (fun _ _ _ h => h) ⟨hB4, hB11⟩ (fun w' x => Still.extract rfl rfl) ?_
          refine Gq.one 9 rfl (by kernel_rfl) ?_
          refine Sq.alloc zero27 .plain rfl (fun b96 w97 e98 hB99 hlo100 => ?_)
          have hd101 := Nat.le_trans (Below.size E) hlo100
          have hd102 := Nat.lt_of_lt_of_le hB4.lt hlo100
          have hd103 := Nat.lt_of_lt_of_le hB11.lt hlo100
          have hs104 := Below.size e98
          replace E := E.trans e98
          replace hB4 := hB4.ext e98
          replace hB11 := hB11.ext e98
          replace hn90 := hn90.ext e98
          replace ha91 := ha91.ext e98
          refine Sq.nil ?_
          refine Eq.goes (fun _ => ⟨hB4, hB11⟩) ?_
          refine Gq.one 10 rfl (by kernel_rfl) ?_
          refine Sq.storeAgg agg27 .plain rfl rfl (one_cons rfl (one_cons (Rows.one (OwnRows.rows hn90)) (one_cons (Row.one (Own.row ha91)) one_nil))) hB99 rfl rfl (fun w105 g106 hB107 => ?_)
          have hs108 := World.grownBy.size g106
          replace E := E.grown g106 (fun k hk => by injection hk with hk; subst hk; omega)
          replace hB4 := hB4.grown g106 (by intro h; injection h with h; omega)
          replace hB11 := hB11.grown g106 (by intro h; injection h with h; omega)
          replace hn90 := hn90.stored g106 hB99 (by decide) (by decide)
          replace ha91 := ha91.stored g106 hB99 (by decide)
          replace hB99 := hB107
          refine Sq.nil ?_
          refine Eq.goes (fun _ => ⟨hB4, hB11⟩) ?_
          refine Gq.one 11 rfl (by kernel_rfl) ?_
          refine Sq.assign .plain rfl rfl ?_
          refine Sq.nil ?_
          refine Eq.goes (fun h => absurd h (by decide)) ?_
          refine Gq.done (by kernel_rfl) ?_
          refine Eq.left _ ⟨b96, nx88, ac89, zeroA, false, rfl, hB99, (OwnRows.rows hn90), (Own.row ha91), .inr ⟨rfl, rfl, hC⟩, E, hB4, hB11⟩ (.cons rfl (.cons rfl (.cons rfl (.cons rfl (.cons rfl (.nil))))))
        refine Sq.alloc zero27 .plain rfl (fun b109 w110 e111 hB112 hlo113 => ?_)
        have hd114 := Nat.le_trans (Below.size E) hlo113
        have hd115 := Nat.lt_of_lt_of_le hB4.lt hlo113
        have hd116 := Nat.lt_of_lt_of_le hB11.lt hlo113
        have hs117 := Below.size e111
        replace E := E.trans e111
        replace hB4 := hB4.ext e111
        replace hB11 := hB11.ext e111
        replace hn46 := hn46.ext e111
        replace ha47 := ha47.ext e111
        replace hn57 := hn57.ext e111
        replace ha58 := ha58.ext e111
        refine Sq.nil ?_
        refine Eq.goes (fun _ => ⟨hB4, hB11⟩) ?_
        refine Gq.one 5 rfl (by kernel_rfl) ?_
        rcases Bool.eq_false_or_eq_true (prodOk a b k) with hC | hC
        · obtain ⟨hv, hv', hk, hl12⟩ := prodOk_spec.1 hC
          have hd124 := hB4.lt
          have hd125 := hB11.lt
          have hd126 := hB112.lt
          refine Sq.call fn20 .plain rfl rfl (sProd_c_T _ a b _ _ _ _ (OwnRows.rows hn46) (Own.row ha47) (OwnRows.rows hn57) (Own.row ha58) k hC) ?_
          rintro _ w118 ⟨⟨_, rfl, nx120, ac121, rfl, hn122, ha123⟩, e119⟩
          have hs127 := Below.size E
          have hs128 := Below.size e119
          replace E := E.trans e119
          replace hB4 := hB4.ext e119
          replace hB11 := hB11.ext e119
          replace hB112 := hB112.ext e119
          have hl_ha123 := Own.low ha123
          refine Sq.nil ?_
          refine Eq.goes (fun _ => ⟨hB4, hB11⟩) ?_
          refine Gq.st 6 rfl (by kernel_rfl) rfl .plain rfl (fun _ _ _ h => h) ⟨hB4, hB11⟩ (fun w' x => Still.move rfl) ?_
          refine Gq.st 7 rfl (by kernel_rfl) rfl .plain rfl (fun _ _ _ h => h) ⟨hB4, hB11⟩ (fun w' x => Still.extract rfl rfl) ?_
          refine Gq.st 8 rfl (by kernel_rfl) rfl .plain rfl (fun _ _ _ h => h) ⟨hB4, hB11⟩ (fun w' x => Still.extract rfl rfl) ?_
          refine Gq.one 10 rfl (by kernel_rfl) ?_
          refine Sq.storeAgg agg27 .plain rfl rfl (one_cons rfl (one_cons (Rows.one (OwnRows.rows hn122)) (one_cons (Row.one (Own.row ha123)) one_nil))) hB112 rfl rfl (fun w129 g130 hB131 => ?_)
          have hs132 := World.grownBy.size g130
          replace E := E.grown g130 (fun k hk => by injection hk with hk; subst hk; omega)
          replace hB4 := hB4.grown g130 (by intro h; injection h with h; omega)
          replace hB11 := hB11.grown g130 (by intro h; injection h with h; omega)
          replace hn122 := hn122.stored g130 hB112 (by decide) (by decide)
          replace ha123 := ha123.stored g130 hB112 (by decide)
          replace hB112 := hB131
          refine Sq.nil ?_
          refine Eq.goes (fun _ => ⟨hB4, hB11⟩) ?_
          refine Gq.one 11 rfl (by kernel_rfl) ?_
          refine Sq.assign .plain rfl rfl ?_
          refine Sq.nil ?_
          refine Eq.goes (fun h => absurd h (by decide)) ?_
          refine Gq.done (by kernel_rfl) ?_
          refine Eq.left _ ⟨b109, nx120, ac121, (prodA a b k), true, rfl, hB112, (OwnRows.rows hn122), (Own.row ha123), .inl ⟨rfl, rfl, hC⟩, E, hB4, hB11⟩ (.cons rfl (.cons rfl (.cons rfl (.cons rfl (.cons rfl (.nil))))))
        have hd139 := hB4.lt
        have hd140 := hB11.lt
        have hd141 := hB112.lt
        refine Sq.call fn20 .plain rfl rfl (sProd_c_F _ a b _ _ _ _ (OwnRows.rows hn46) (Own.row ha47) (OwnRows.rows hn57) (Own.row ha58) k hC) ?_
        rintro _ w133 ⟨⟨_, rfl, nx135, ac136, rfl, hn137, ha138⟩, e134⟩
        have hs142 := Below.size E
        have hs143 := Below.size e134
        replace E := E.trans e134
        replace hB4 := hB4.ext e134
        replace hB11 := hB11.ext e134
        replace hB112 := hB112.ext e134
        have hl_ha138 := Own.low ha138
        refine Sq.nil ?_
        refine Eq.goes (fun _ => ⟨hB4, hB11⟩) ?_
        refine Gq.st 6 rfl (by kernel_rfl) rfl .plain rfl (fun _ _ _ h => h) ⟨hB4, hB11⟩ (fun w' x => Still.move rfl) ?_
        refine Gq.st 7 rfl (by kernel_rfl) rfl .plain rfl (fun _ _ _ h => h) ⟨hB4, hB11⟩ (fun w' x => Still.extract rfl rfl) ?_
        refine Gq.st 8 rfl (by kernel_rfl) rfl .plain rfl (fun _ _ _ h => h) ⟨hB4, hB11⟩ (fun w' x => Still.extract rfl rfl) ?_
        refine Gq.one 10 rfl (by kernel_rfl) ?_
        refine Sq.storeAgg agg27 .plain rfl rfl (one_cons rfl (one_cons (Rows.one (OwnRows.rows hn137)) (one_cons (Row.one (Own.row ha138)) one_nil))) hB112 rfl rfl (fun w144 g145 hB146 => ?_)
        have hs147 := World.grownBy.size g145
        replace E := E.grown g145 (fun k hk => by injection hk with hk; subst hk; omega)
        replace hB4 := hB4.grown g145 (by intro h; injection h with h; omega)
        replace hB11 := hB11.grown g145 (by intro h; injection h with h; omega)
        replace hn137 := hn137.stored g145 hB112 (by decide) (by decide)
        replace ha138 := ha138.stored g145 hB112 (by decide)
        replace hB112 := hB146
        refine Sq.nil ?_
        refine Eq.goes (fun _ => ⟨hB4, hB11⟩) ?_
        refine Gq.one 11 rfl (by kernel_rfl) ?_
        refine Sq.assign .plain rfl rfl ?_
        refine Sq.nil ?_
        refine Eq.goes (fun h => absurd h (by decide)) ?_
        refine Gq.done (by kernel_rfl) ?_
        refine Eq.left _ ⟨b109, nx135, ac136, zeroA, false, rfl, hB112, (OwnRows.rows hn137), (Own.row ha138), .inr ⟨rfl, rfl, hC⟩, E, hB4, hB11⟩ (.cons rfl (.cons rfl (.cons rfl (.cons rfl (.cons rfl (.nil))))))
      refine Sq.alloc zero27 .plain rfl (fun b148 w149 e150 hB151 hlo152 => ?_)
      have hd153 := Nat.le_trans (Below.size E) hlo152
      have hd154 := Nat.lt_of_lt_of_le hB4.lt hlo152
      have hd155 := Nat.lt_of_lt_of_le hB11.lt hlo152
      have hs156 := Below.size e150
      replace E := E.trans e150
      replace hB4 := hB4.ext e150
      replace hB11 := hB11.ext e150
      replace hn46 := hn46.ext e150
      replace ha47 := ha47.ext e150
      refine Sq.nil ?_
      refine Eq.goes (fun _ => ⟨hB4, hB11⟩) ?_
      refine Gq.one 3 rfl (by kernel_rfl) ?_
      have hd164 := hB4.lt
      have hd165 := hB11.lt
      have hd166 := hB151.lt
      refine Sq.call fn15 .plain rfl rfl (toA_c _ b _ _ (hnx'.ext E) (hac'.ext E) (hsm32 (by omega)).2) ?_
      rintro _ w158 ⟨⟨nx160, ac161, rfl, hn162, ha163⟩, e159⟩
      have hs167 := Below.size E
      have hs168 := Below.size e159
      replace E := E.trans e159
      replace hB4 := hB4.ext e159
      replace hB11 := hB11.ext e159
      replace hn46 := hn46.ext e159
      replace ha47 := ha47.ext e159
      replace hB151 := hB151.ext e159
      have hl_ha163 := Own.low ha163
      refine Sq.nil ?_
      refine Eq.goes (fun _ => ⟨hB4, hB11⟩) ?_
      refine Gq.one 5 rfl (by kernel_rfl) ?_
      rcases Bool.eq_false_or_eq_true (prodOk a b k) with hC | hC
      · obtain ⟨hv, hv', hk, hl12⟩ := prodOk_spec.1 hC
        have hd175 := hB4.lt
        have hd176 := hB11.lt
        have hd177 := hB151.lt
        refine Sq.call fn20 .plain rfl rfl (sProd_c_T _ a b _ _ _ _ (OwnRows.rows hn46) (Own.row ha47) (OwnRows.rows hn162) (Own.row ha163) k hC) ?_
        rintro _ w169 ⟨⟨_, rfl, nx171, ac172, rfl, hn173, ha174⟩, e170⟩
        have hs178 := Below.size E
        have hs179 := Below.size e170
        replace E := E.trans e170
        replace hB4 := hB4.ext e170
        replace hB11 := hB11.ext e170
        replace hB151 := hB151.ext e170
        have hl_ha174 := Own.low ha174
        refine Sq.nil ?_
        refine Eq.goes (fun _ => ⟨hB4, hB11⟩) ?_
        refine Gq.st 6 rfl (by kernel_rfl) rfl .plain rfl (fun _ _ _ h => h) ⟨hB4, hB11⟩ (fun w' x => Still.move rfl) ?_
        refine Gq.st 7 rfl (by kernel_rfl) rfl .plain rfl (fun _ _ _ h => h) ⟨hB4, hB11⟩ (fun w' x => Still.extract rfl rfl) ?_
        refine Gq.st 8 rfl (by kernel_rfl) rfl .plain rfl (fun _ _ _ h => h) ⟨hB4, hB11⟩ (fun w' x => Still.extract rfl rfl) ?_
        refine Gq.one 10 rfl (by kernel_rfl) ?_
        refine Sq.storeAgg agg27 .plain rfl rfl (one_cons rfl (one_cons (Rows.one (OwnRows.rows hn173)) (one_cons (Row.one (Own.row ha174)) one_nil))) hB151 rfl rfl (fun w180 g181 hB182 => ?_)
        have hs183 := World.grownBy.size g181
        replace E := E.grown g181 (fun k hk => by injection hk with hk; subst hk; omega)
        replace hB4 := hB4.grown g181 (by intro h; injection h with h; omega)
        replace hB11 := hB11.grown g181 (by intro h; injection h with h; omega)
        replace hn173 := hn173.stored g181 hB151 (by decide) (by decide)
        replace ha174 := ha174.stored g181 hB151 (by decide)
        replace hB151 := hB182
        refine Sq.nil ?_
        refine Eq.goes (fun _ => ⟨hB4, hB11⟩) ?_
        refine Gq.one 11 rfl (by kernel_rfl) ?_
        refine Sq.assign .plain rfl rfl ?_
        refine Sq.nil ?_
        refine Eq.goes (fun h => absurd h (by decide)) ?_
        refine Gq.done (by kernel_rfl) ?_
        refine Eq.left _ ⟨b148, nx171, ac172, (prodA a b k), true, rfl, hB151, (OwnRows.rows hn173), (Own.row ha174), .inl ⟨rfl, rfl, hC⟩, E, hB4, hB11⟩ (.cons rfl (.cons rfl (.cons rfl (.cons rfl (.cons rfl (.nil))))))
      have hd190 := hB4.lt
      have hd191 := hB11.lt
      have hd192 := hB151.lt
      refine Sq.call fn20 .plain rfl rfl (sProd_c_F _ a b _ _ _ _ (OwnRows.rows hn46) (Own.row ha47) (OwnRows.rows hn162) (Own.row ha163) k hC) ?_
      rintro _ w184 ⟨⟨_, rfl, nx186, ac187, rfl, hn188, ha189⟩, e185⟩
      have hs193 := Below.size E
      have hs194 := Below.size e185
      replace E := E.trans e185
      replace hB4 := hB4.ext e185
      replace hB11 := hB11.ext e185
      replace hB151 := hB151.ext e185
      have hl_ha189 := Own.low ha189
      refine Sq.nil ?_
      refine Eq.goes (fun _ => ⟨hB4, hB11⟩) ?_
      refine Gq.st 6 rfl (by kernel_rfl) rfl .plain rfl (fun _ _ _ h => h) ⟨hB4, hB11⟩ (fun w' x => Still.move rfl) ?_
      refine Gq.st 7 rfl (by kernel_rfl) rfl .plain rfl (fun _ _ _ h => h) ⟨hB4, hB11⟩ (fun w' x => Still.extract rfl rfl) ?_
      refine Gq.st 8 rfl (by kernel_rfl) rfl .plain rfl (fun _ _ _ h => h) ⟨hB4, hB11⟩ (fun w' x => Still.extract rfl rfl) ?_
      refine Gq.one 10 rfl (by kernel_rfl) ?_
      refine Sq.storeAgg agg27 .plain rfl rfl (one_cons rfl (one_cons (Rows.one (OwnRows.rows hn188)) (one_cons (Row.one (Own.row ha189)) one_nil))) hB151 rfl rfl (fun w195 g196 hB197 => ?_)
      have hs198 := World.grownBy.size g196
      replace E := E.grown g196 (fun k hk => by injection hk with hk; subst hk; omega)
      replace hB4 := hB4.grown g196 (by intro h; injection h with h; omega)
      replace hB11 := hB11.grown g196 (by intro h; injection h with h; omega)
      replace hn188 := hn188.stored g196 hB151 (by decide) (by decide)
      replace ha189 := ha189.stored g196 hB151 (by decide)
      replace hB151 := hB197
      refine Sq.nil ?_
      refine Eq.goes (fun _ => ⟨hB4, hB11⟩) ?_
      refine Gq.one 11 rfl (by kernel_rfl) ?_
      refine Sq.assign .plain rfl rfl ?_
      refine Sq.nil ?_
      refine Eq.goes (fun h => absurd h (by decide)) ?_
      refine Gq.done (by kernel_rfl) ?_
      refine Eq.left _ ⟨b148, nx186, ac187, zeroA, false, rfl, hB151, (OwnRows.rows hn188), (Own.row ha189), .inr ⟨rfl, rfl, hC⟩, E, hB4, hB11⟩ (.cons rfl (.cons rfl (.cons rfl (.cons rfl (.cons rfl (.nil))))))
    refine Sq.alloc zero27 .plain rfl (fun b199 w200 e201 hB202 hlo203 => ?_)
    have hd204 := Nat.le_trans (Below.size E) hlo203
    have hd205 := Nat.lt_of_lt_of_le hB4.lt hlo203
    have hd206 := Nat.lt_of_lt_of_le hB11.lt hlo203
    have hs207 := Below.size e201
    replace E := E.trans e201
    replace hB4 := hB4.ext e201
    replace hB11 := hB11.ext e201
    refine Sq.nil ?_
    refine Eq.goes (fun _ => ⟨hB4, hB11⟩) ?_
    refine Gq.one 1 rfl (by kernel_rfl) ?_
    have hd215 := hB4.lt
    have hd216 := hB11.lt
    have hd217 := hB202.lt
    refine Sq.call fn15 .plain rfl rfl (toA_c _ a _ _ (hnx.ext E) (hac.ext E) (hsm21 (by omega)).2) ?_
    rintro _ w209 ⟨⟨nx211, ac212, rfl, hn213, ha214⟩, e210⟩
    have hs218 := Below.size E
    have hs219 := Below.size e210
    replace E := E.trans e210
    replace hB4 := hB4.ext e210
    replace hB11 := hB11.ext e210
    replace hB202 := hB202.ext e210
    have hl_ha214 := Own.low ha214
    refine Sq.nil ?_
    refine Eq.goes (fun _ => ⟨hB4, hB11⟩) ?_
    refine Gq.one 3 rfl (by kernel_rfl) ?_
    have hd227 := hB4.lt
    have hd228 := hB11.lt
    have hd229 := hB202.lt
    refine Sq.call fn15 .plain rfl rfl (toA_c _ b _ _ (hnx'.ext E) (hac'.ext E) (hsm32 (by omega)).2) ?_
    rintro _ w221 ⟨⟨nx223, ac224, rfl, hn225, ha226⟩, e222⟩
    have hs230 := Below.size E
    have hs231 := Below.size e222
    replace E := E.trans e222
    replace hB4 := hB4.ext e222
    replace hB11 := hB11.ext e222
    replace hB202 := hB202.ext e222
    replace hn213 := hn213.ext e222
    replace ha214 := ha214.ext e222
    have hl_ha226 := Own.low ha226
    refine Sq.nil ?_
    refine Eq.goes (fun _ => ⟨hB4, hB11⟩) ?_
    refine Gq.one 5 rfl (by kernel_rfl) ?_
    rcases Bool.eq_false_or_eq_true (prodOk a b k) with hC | hC
    · obtain ⟨hv, hv', hk, hl12⟩ := prodOk_spec.1 hC
      have hd238 := hB4.lt
      have hd239 := hB11.lt
      have hd240 := hB202.lt
      refine Sq.call fn20 .plain rfl rfl (sProd_c_T _ a b _ _ _ _ (OwnRows.rows hn213) (Own.row ha214) (OwnRows.rows hn225) (Own.row ha226) k hC) ?_
      rintro _ w232 ⟨⟨_, rfl, nx234, ac235, rfl, hn236, ha237⟩, e233⟩
      have hs241 := Below.size E
      have hs242 := Below.size e233
      replace E := E.trans e233
      replace hB4 := hB4.ext e233
      replace hB11 := hB11.ext e233
      replace hB202 := hB202.ext e233
      have hl_ha237 := Own.low ha237
      refine Sq.nil ?_
      refine Eq.goes (fun _ => ⟨hB4, hB11⟩) ?_
      refine Gq.st 6 rfl (by kernel_rfl) rfl .plain rfl (fun _ _ _ h => h) ⟨hB4, hB11⟩ (fun w' x => Still.move rfl) ?_
      refine Gq.st 7 rfl (by kernel_rfl) rfl .plain rfl (fun _ _ _ h => h) ⟨hB4, hB11⟩ (fun w' x => Still.extract rfl rfl) ?_
      refine Gq.st 8 rfl (by kernel_rfl) rfl .plain rfl (fun _ _ _ h => h) ⟨hB4, hB11⟩ (fun w' x => Still.extract rfl rfl) ?_
      refine Gq.one 10 rfl (by kernel_rfl) ?_
      refine Sq.storeAgg agg27 .plain rfl rfl (one_cons rfl (one_cons (Rows.one (OwnRows.rows hn236)) (one_cons (Row.one (Own.row ha237)) one_nil))) hB202 rfl rfl (fun w243 g244 hB245 => ?_)
      have hs246 := World.grownBy.size g244
      replace E := E.grown g244 (fun k hk => by injection hk with hk; subst hk; omega)
      replace hB4 := hB4.grown g244 (by intro h; injection h with h; omega)
      replace hB11 := hB11.grown g244 (by intro h; injection h with h; omega)
      replace hn236 := hn236.stored g244 hB202 (by decide) (by decide)
      replace ha237 := ha237.stored g244 hB202 (by decide)
      replace hB202 := hB245
      refine Sq.nil ?_
      refine Eq.goes (fun _ => ⟨hB4, hB11⟩) ?_
      refine Gq.one 11 rfl (by kernel_rfl) ?_
      refine Sq.assign .plain rfl rfl ?_
      refine Sq.nil ?_
      refine Eq.goes (fun h => absurd h (by decide)) ?_
      refine Gq.done (by kernel_rfl) ?_
      refine Eq.left _ ⟨b199, nx234, ac235, (prodA a b k), true, rfl, hB202, (OwnRows.rows hn236), (Own.row ha237), .inl ⟨rfl, rfl, hC⟩, E, hB4, hB11⟩ (.cons rfl (.cons rfl (.cons rfl (.cons rfl (.cons rfl (.nil))))))
    have hd253 := hB4.lt
    have hd254 := hB11.lt
    have hd255 := hB202.lt
    refine Sq.call fn20 .plain rfl rfl (sProd_c_F _ a b _ _ _ _ (OwnRows.rows hn213) (Own.row ha214) (OwnRows.rows hn225) (Own.row ha226) k hC) ?_
    rintro _ w247 ⟨⟨_, rfl, nx249, ac250, rfl, hn251, ha252⟩, e248⟩
    have hs256 := Below.size E
    have hs257 := Below.size e248
    replace E := E.trans e248
    replace hB4 := hB4.ext e248
    replace hB11 := hB11.ext e248
    replace hB202 := hB202.ext e248
    have hl_ha252 := Own.low ha252
    refine Sq.nil ?_
    refine Eq.goes (fun _ => ⟨hB4, hB11⟩) ?_
    refine Gq.st 6 rfl (by kernel_rfl) rfl .plain rfl (fun _ _ _ h => h) ⟨hB4, hB11⟩ (fun w' x => Still.move rfl) ?_
    refine Gq.st 7 rfl (by kernel_rfl) rfl .plain rfl (fun _ _ _ h => h) ⟨hB4, hB11⟩ (fun w' x => Still.extract rfl rfl) ?_
    refine Gq.st 8 rfl (by kernel_rfl) rfl .plain rfl (fun _ _ _ h => h) ⟨hB4, hB11⟩ (fun w' x => Still.extract rfl rfl) ?_
    refine Gq.one 10 rfl (by kernel_rfl) ?_
    refine Sq.storeAgg agg27 .plain rfl rfl (one_cons rfl (one_cons (Rows.one (OwnRows.rows hn251)) (one_cons (Row.one (Own.row ha252)) one_nil))) hB202 rfl rfl (fun w258 g259 hB260 => ?_)
    have hs261 := World.grownBy.size g259
    replace E := E.grown g259 (fun k hk => by injection hk with hk; subst hk; omega)
    replace hB4 := hB4.grown g259 (by intro h; injection h with h; omega)
    replace hB11 := hB11.grown g259 (by intro h; injection h with h; omega)
    replace hn251 := hn251.stored g259 hB202 (by decide) (by decide)
    replace ha252 := ha252.stored g259 hB202 (by decide)
    replace hB202 := hB260
    refine Sq.nil ?_
    refine Eq.goes (fun _ => ⟨hB4, hB11⟩) ?_
    refine Gq.one 11 rfl (by kernel_rfl) ?_
    refine Sq.assign .plain rfl rfl ?_
    refine Sq.nil ?_
    refine Eq.goes (fun h => absurd h (by decide)) ?_
    refine Gq.done (by kernel_rfl) ?_
    refine Eq.left _ ⟨b199, nx249, ac250, zeroA, false, rfl, hB202, (OwnRows.rows hn251), (Own.row ha252), .inr ⟨rfl, rfl, hC⟩, E, hB4, hB11⟩ (.cons rfl (.cons rfl (.cons rfl (.cons rfl (.cons rfl (.nil))))))
  rintro ls wc8 ⟨bW, nxw, acw, W0, okb, rfl, hB8, hnw, haw, hW, E, hB4, hB11⟩
  have hs262 := Below.size E
  rcases hW with ⟨rfl, rfl, hC⟩ | ⟨rfl, rfl, hC⟩
  · have Ew := Ext.refl wc8
    obtain ⟨hv, hv', hk, hl12⟩ := prodOk_spec.1 hC
    refine Eq.next ?_
    refine Cq.seq ?_
    refine Cq.region ?_
    refine Sq.loadAgg agg25 .plain rfl rfl hB4 rfl ?_
    have hd270 := hB4.lt
    have hd271 := hB11.lt
    have hd272 := hB8.lt
    refine Sq.call fn15 .plain rfl rfl (toA_c _ a _ _ (hnx.ext E) (hac.ext E) (hsm21 (by omega)).2) ?_
    rintro _ w264 ⟨⟨nx266, ac267, rfl, hn268, ha269⟩, e265⟩
    have hs273 := Below.size E
    have hs274 := Below.size Ew
    have hs275 := Below.size e265
    replace E := E.trans e265
    replace hB4 := hB4.ext e265
    replace hB11 := hB11.ext e265
    replace hB8 := hB8.ext e265
    replace Ew := Ew.trans e265
    have hl_ha269 := Own.low ha269
    refine Sq.alloc zero27 .plain rfl (fun b276 w277 e278 hB279 hlo280 => ?_)
    have hd281 := Nat.le_trans (Below.size E) hlo280
    have hd282 := Nat.lt_of_lt_of_le hB4.lt hlo280
    have hd283 := Nat.lt_of_lt_of_le hB11.lt hlo280
    have hd284 := Nat.lt_of_lt_of_le hB8.lt hlo280
    have hd285 := Nat.le_trans (Below.size Ew) hlo280
    have hs286 := Below.size e278
    replace E := E.trans e278
    replace hB4 := hB4.ext e278
    replace hB11 := hB11.ext e278
    replace hB8 := hB8.ext e278
    replace Ew := Ew.trans e278
    replace hn268 := hn268.ext e278
    replace ha269 := ha269.ext e278
    refine Sq.storeAgg agg27 .plain rfl rfl (one_cons rfl (one_cons (Rows.one (OwnRows.rows hn268)) (one_cons (Row.one (Own.row ha269)) one_nil))) hB279 rfl rfl (fun w287 g288 hB289 => ?_)
    have hs290 := World.grownBy.size g288
    replace E := E.grown g288 (fun k hk => by injection hk with hk; subst hk; omega)
    replace hB4 := hB4.grown g288 (by intro h; injection h with h; omega)
    replace hB11 := hB11.grown g288 (by intro h; injection h with h; omega)
    replace hB8 := hB8.grown g288 (by intro h; injection h with h; omega)
    replace Ew := Ew.grown g288 (fun k hk => by injection hk with hk; subst hk; omega)
    replace hn268 := hn268.stored g288 hB279 (by decide) (by decide)
    replace ha269 := ha269.stored g288 hB279 (by decide)
    replace hB279 := hB289
    refine Sq.nil ?_
    refine Eq.next ?_
    refine Cq.seq ?_
    refine Cq.region ?_
    refine Sq.loadAgg agg25 .plain rfl rfl hB11 rfl ?_
    have hd298 := hB4.lt
    have hd299 := hB11.lt
    have hd300 := hB8.lt
    have hd301 := hB279.lt
    refine Sq.call fn15 .plain rfl rfl (toA_c _ b _ _ (hnx'.ext E) (hac'.ext E) (hsm32 (by omega)).2) ?_
    rintro _ w292 ⟨⟨nx294, ac295, rfl, hn296, ha297⟩, e293⟩
    have hs302 := Below.size E
    have hs303 := Below.size Ew
    have hs304 := Below.size e293
    replace E := E.trans e293
    replace hB4 := hB4.ext e293
    replace hB11 := hB11.ext e293
    replace hB8 := hB8.ext e293
    replace Ew := Ew.trans e293
    replace hn268 := hn268.ext e293
    replace ha269 := ha269.ext e293
    replace hB279 := hB279.ext e293
    have hl_ha297 := Own.low ha297
    refine Sq.alloc zero27 .plain rfl (fun b305 w306 e307 hB308 hlo309 => ?_)
    have hd310 := Nat.le_trans (Below.size E) hlo309
    have hd311 := Nat.lt_of_lt_of_le hB4.lt hlo309
    have hd312 := Nat.lt_of_lt_of_le hB11.lt hlo309
    have hd313 := Nat.lt_of_lt_of_le hB8.lt hlo309
    have hd314 := Nat.le_trans (Below.size Ew) hlo309
    have hd315 := Nat.lt_of_lt_of_le hB279.lt hlo309
    have hs316 := Below.size e307
    replace E := E.trans e307
    replace hB4 := hB4.ext e307
    replace hB11 := hB11.ext e307
    replace hB8 := hB8.ext e307
    replace Ew := Ew.trans e307
    replace hn268 := hn268.ext e307
    replace ha269 := ha269.ext e307
    replace hB279 := hB279.ext e307
    replace hn296 := hn296.ext e307
    replace ha297 := ha297.ext e307
    refine Sq.storeAgg agg27 .plain rfl rfl (one_cons rfl (one_cons (Rows.one (OwnRows.rows hn296)) (one_cons (Row.one (Own.row ha297)) one_nil))) hB308 rfl rfl (fun w317 g318 hB319 => ?_)
    have hs320 := World.grownBy.size g318
    replace E := E.grown g318 (fun k hk => by injection hk with hk; subst hk; omega)
    replace hB4 := hB4.grown g318 (by intro h; injection h with h; omega)
    replace hB11 := hB11.grown g318 (by intro h; injection h with h; omega)
    replace hB8 := hB8.grown g318 (by intro h; injection h with h; omega)
    replace Ew := Ew.grown g318 (fun k hk => by injection hk with hk; subst hk; omega)
    replace hn268 := hn268.stored g318 hB308 (by decide) (by decide)
    replace ha269 := ha269.stored g318 hB308 (by decide)
    replace hB279 := hB279.grown g318 (by intro h; injection h with h; omega)
    replace hn296 := hn296.stored g318 hB308 (by decide) (by decide)
    replace ha297 := ha297.stored g318 hB308 (by decide)
    replace hB308 := hB319
    refine Sq.nil ?_
    refine Eq.next ?_
    refine Cq.seq ?_
    refine Cq.region ?_
    refine Sq.loadAgg agg27 .plain rfl rfl hB279 rfl ?_
    refine Sq.loadAgg agg27 .plain rfl rfl hB308 rfl ?_
    refine Sq.move .plain rfl rfl ?_
    have hd327 := hB4.lt
    have hd328 := hB11.lt
    have hd329 := hB8.lt
    have hd330 := hB279.lt
    have hd331 := hB308.lt
    refine Sq.call fn21 .plain rfl rfl (prod_c_T _ a b _ _ _ _ (OwnRows.rows hn268) (Own.row ha269) (OwnRows.rows hn296) (Own.row ha297) k hC) ?_
    rintro _ w321 ⟨⟨_, rfl, nx323, ac324, rfl, hn325, ha326⟩, e322⟩
    have hs332 := Below.size E
    have hs333 := Below.size Ew
    have hs334 := Below.size e322
    replace E := E.trans e322
    replace hB4 := hB4.ext e322
    replace hB11 := hB11.ext e322
    replace hB8 := hB8.ext e322
    replace Ew := Ew.trans e322
    replace hn268 := hn268.ext e322
    replace ha269 := ha269.ext e322
    replace hB279 := hB279.ext e322
    replace hn296 := hn296.ext e322
    replace ha297 := ha297.ext e322
    replace hB308 := hB308.ext e322
    have hl_ha326 := Own.low ha326
    refine Sq.move .plain rfl rfl ?_
    refine Sq.extract .plain rfl rfl rfl ?_
    refine Sq.extract .plain rfl rfl rfl ?_
    refine Sq.alloc zero27 .plain rfl (fun b335 w336 e337 hB338 hlo339 => ?_)
    have hd340 := Nat.le_trans (Below.size E) hlo339
    have hd341 := Nat.lt_of_lt_of_le hB4.lt hlo339
    have hd342 := Nat.lt_of_lt_of_le hB11.lt hlo339
    have hd343 := Nat.lt_of_lt_of_le hB8.lt hlo339
    have hd344 := Nat.le_trans (Below.size Ew) hlo339
    have hd345 := Nat.lt_of_lt_of_le hB279.lt hlo339
    have hd346 := Nat.lt_of_lt_of_le hB308.lt hlo339
    have hs347 := Below.size e337
    replace E := E.trans e337
    replace hB4 := hB4.ext e337
    replace hB11 := hB11.ext e337
    replace hB8 := hB8.ext e337
    replace Ew := Ew.trans e337
    replace hn268 := hn268.ext e337
    replace ha269 := ha269.ext e337
    replace hB279 := hB279.ext e337
    replace hn296 := hn296.ext e337
    replace ha297 := ha297.ext e337
    replace hB308 := hB308.ext e337
    replace hn325 := hn325.ext e337
    replace ha326 := ha326.ext e337
    refine Sq.storeAgg agg27 .plain rfl rfl (one_cons rfl (one_cons (Rows.one (OwnRows.rows hn325)) (one_cons (Row.one (Own.row ha326)) one_nil))) hB338 rfl rfl (fun w348 g349 hB350 => ?_)
    have hs351 := World.grownBy.size g349
    replace E := E.grown g349 (fun k hk => by injection hk with hk; subst hk; omega)
    replace hB4 := hB4.grown g349 (by intro h; injection h with h; omega)
    replace hB11 := hB11.grown g349 (by intro h; injection h with h; omega)
    replace hB8 := hB8.grown g349 (by intro h; injection h with h; omega)
    replace Ew := Ew.grown g349 (fun k hk => by injection hk with hk; subst hk; omega)
    replace hn268 := hn268.stored g349 hB338 (by decide) (by decide)
    replace ha269 := ha269.stored g349 hB338 (by decide)
    replace hB279 := hB279.grown g349 (by intro h; injection h with h; omega)
    replace hn296 := hn296.stored g349 hB338 (by decide) (by decide)
    replace ha297 := ha297.stored g349 hB338 (by decide)
    replace hB308 := hB308.grown g349 (by intro h; injection h with h; omega)
    replace hn325 := hn325.stored g349 hB338 (by decide) (by decide)
    replace ha326 := ha326.stored g349 hB338 (by decide)
    replace hB338 := hB350
    refine Sq.assign .plain rfl rfl ?_
    refine Sq.nil ?_
    refine Eq.next ?_
    refine Cq.seq ?_
    refine Cq.seq ?_
    refine Cq.region ?_
    refine Sq.loadAgg agg27 .plain rfl rfl hB338 rfl ?_
    refine Sq.loadAgg agg27 .plain rfl rfl hB8 rfl ?_
    have hd355 := hB4.lt
    have hd356 := hB11.lt
    have hd357 := hB8.lt
    have hd358 := hB279.lt
    have hd359 := hB308.lt
    have hd360 := hB338.lt
    refine Sq.call fn17 .plain rfl rfl (eqAut_c _ (prodA a b k) (prodA a b k) _ _ _ _ (OwnRows.rows hn325) (Own.row ha326) (hnw.ext Ew) (haw.ext Ew) ((smx_valid (prod_valid hC)))) ?_
    rintro _ w353 ⟨rfl, e354⟩
    have hs361 := Below.size E
    have hs362 := Below.size Ew
    have hs363 := Below.size e354
    replace E := E.trans e354
    replace hB4 := hB4.ext e354
    replace hB11 := hB11.ext e354
    replace hB8 := hB8.ext e354
    replace Ew := Ew.trans e354
    replace hn268 := hn268.ext e354
    replace ha269 := ha269.ext e354
    replace hB279 := hB279.ext e354
    replace hn296 := hn296.ext e354
    replace ha297 := ha297.ext e354
    replace hB308 := hB308.ext e354
    replace hn325 := hn325.ext e354
    replace ha326 := ha326.ext e354
    replace hB338 := hB338.ext e354
    refine Sq.beT (eqA_refl _) ?_
    refine Sq.notT .plain rfl rfl ?_
    refine Sq.move .plain rfl rfl ?_
    refine Sq.move (.met rfl rfl rfl) rfl rfl ?_
    refine Sq.move (.met rfl rfl rfl) rfl rfl ?_
    refine Sq.neqB und4 (.met rfl rfl rfl) rfl rfl rfl ?_
    refine Sq.pickF .plain rfl rfl rfl ?_
    refine Sq.nil ?_
    refine Eq.next ?_
    refine Cq.els rfl ?_
    refine Cq.skip ?_
    refine Eq.next ?_
    refine Cq.seq ?_
    refine Cq.seq ?_
    refine Cq.draw 5 none mixed (fun w364 e365 => ?_)
    have hs366 := Below.size e365
    replace E := E.trans e365
    replace hB4 := hB4.ext e365
    replace hB11 := hB11.ext e365
    replace hB8 := hB8.ext e365
    replace Ew := Ew.trans e365
    replace hn268 := hn268.ext e365
    replace ha269 := ha269.ext e365
    replace hB279 := hB279.ext e365
    replace hn296 := hn296.ext e365
    replace ha297 := ha297.ext e365
    replace hB308 := hB308.ext e365
    replace hn325 := hn325.ext e365
    replace ha326 := ha326.ext e365
    replace hB338 := hB338.ext e365
    have hB4_w364 := hB4
    have hB279_w364 := hB279
    refine Gq.st 0 rfl (by kernel_rfl) rfl .plain rfl (fun _ _ _ h => h) (World.grownBy.refl w364 _) (fun w' x => Still.loadAgg agg27 rfl (hB279_w364.ext (Ext.of_grown x)) rfl) ?_
    refine Gq.st 1 rfl (by kernel_rfl) rfl .plain rfl (fun _ _ _ h => h) (World.grownBy.refl w364 _) (fun w' x => Still.loadAgg agg25 rfl (hB4_w364.ext (Ext.of_grown x)) rfl) ?_
    refine Gq.one 2 rfl (by kernel_rfl) ?_
    have hd374 := hB4.lt
    have hd375 := hB11.lt
    have hd376 := hB8.lt
    have hd377 := hB279.lt
    have hd378 := hB308.lt
    have hd379 := hB338.lt
    refine Sq.call fn15 .plain rfl rfl (toA_c _ a _ _ (hnx.ext E) (hac.ext E) (hsm21 (by omega)).2) ?_
    rintro _ w368 ⟨⟨nx370, ac371, rfl, hn372, ha373⟩, e369⟩
    have hs380 := Below.size E
    have hs381 := Below.size Ew
    have hs382 := Below.size e369
    replace E := E.trans e369
    replace hB4 := hB4.ext e369
    replace hB11 := hB11.ext e369
    replace hB8 := hB8.ext e369
    replace Ew := Ew.trans e369
    replace hn268 := hn268.ext e369
    replace ha269 := ha269.ext e369
    replace hB279 := hB279.ext e369
    replace hn296 := hn296.ext e369
    replace ha297 := ha297.ext e369
    replace hB308 := hB308.ext e369
    replace hn325 := hn325.ext e369
    replace ha326 := ha326.ext e369
    replace hB338 := hB338.ext e369
    have hl_ha373 := Own.low ha373
    refine Sq.nil ?_
    refine Eq.goes (fun _ => (grown_trans (World.grownBy.refl w364 _) (Ext.to_grown e369 _))) ?_
    refine Gq.one 3 rfl (by kernel_rfl) ?_
    have hd386 := hB4.lt
    have hd387 := hB11.lt
    have hd388 := hB8.lt
    have hd389 := hB279.lt
    have hd390 := hB308.lt
    have hd391 := hB338.lt
    refine Sq.call fn17 .plain rfl rfl (eqAut_c _ a a _ _ _ _ (OwnRows.rows hn268) (Own.row ha269) (OwnRows.rows hn372) (Own.row ha373) ((hsm21 (by omega)).2)) ?_
    rintro _ w384 ⟨rfl, e385⟩
    have hs392 := Below.size E
    have hs393 := Below.size Ew
    have hs394 := Below.size e385
    replace E := E.trans e385
    replace hB4 := hB4.ext e385
    replace hB11 := hB11.ext e385
    replace hB8 := hB8.ext e385
    replace Ew := Ew.trans e385
    replace hn268 := hn268.ext e385
    replace ha269 := ha269.ext e385
    replace hB279 := hB279.ext e385
    replace hn296 := hn296.ext e385
    replace ha297 := ha297.ext e385
    replace hB308 := hB308.ext e385
    replace hn325 := hn325.ext e385
    replace ha326 := ha326.ext e385
    replace hB338 := hB338.ext e385
    refine Sq.beT (eqA_refl _) ?_
    refine Sq.nil ?_
    refine Eq.goes (fun _ => (grown_trans (grown_trans (World.grownBy.refl w364 _) (Ext.to_grown e369 _)) (Ext.to_grown e385 _))) ?_
    refine Gq.st 4 rfl (by kernel_rfl) rfl .plain rfl (fun _ _ _ h => h) (grown_trans (grown_trans (World.grownBy.refl w364 _) (Ext.to_grown e369 _)) (Ext.to_grown e385 _)) (fun w' x => Still.notT rfl) ?_
    refine Gq.done (by kernel_rfl) ?_
    refine Eq.next ?_
    refine Cq.els rfl ?_
    refine Cq.skip ?_
    refine Eq.next ?_
    refine Cq.seq ?_
    refine Cq.seq ?_
    refine Cq.draw 5 none mixed (fun w395 e396 => ?_)
    have hs397 := Below.size e396
    replace E := E.trans e396
    replace hB4 := hB4.ext e396
    replace hB11 := hB11.ext e396
    replace hB8 := hB8.ext e396
    replace Ew := Ew.trans e396
    replace hn268 := hn268.ext e396
    replace ha269 := ha269.ext e396
    replace hB279 := hB279.ext e396
    replace hn296 := hn296.ext e396
    replace ha297 := ha297.ext e396
    replace hB308 := hB308.ext e396
    replace hn325 := hn325.ext e396
    replace ha326 := ha326.ext e396
    replace hB338 := hB338.ext e396
    have hB11_w395 := hB11
    have hB308_w395 := hB308
    refine Gq.st 0 rfl (by kernel_rfl) rfl .plain rfl (fun _ _ _ h => h) (World.grownBy.refl w395 _) (fun w' x => Still.loadAgg agg27 rfl (hB308_w395.ext (Ext.of_grown x)) rfl) ?_
    refine Gq.st 1 rfl (by kernel_rfl) rfl .plain rfl (fun _ _ _ h => h) (World.grownBy.refl w395 _) (fun w' x => Still.loadAgg agg25 rfl (hB11_w395.ext (Ext.of_grown x)) rfl) ?_
    refine Gq.one 2 rfl (by kernel_rfl) ?_
    have hd405 := hB4.lt
    have hd406 := hB11.lt
    have hd407 := hB8.lt
    have hd408 := hB279.lt
    have hd409 := hB308.lt
    have hd410 := hB338.lt
    refine Sq.call fn15 .plain rfl rfl (toA_c _ b _ _ (hnx'.ext E) (hac'.ext E) (hsm32 (by omega)).2) ?_
    rintro _ w399 ⟨⟨nx401, ac402, rfl, hn403, ha404⟩, e400⟩
    have hs411 := Below.size E
    have hs412 := Below.size Ew
    have hs413 := Below.size e400
    replace E := E.trans e400
    replace hB4 := hB4.ext e400
    replace hB11 := hB11.ext e400
    replace hB8 := hB8.ext e400
    replace Ew := Ew.trans e400
    replace hn268 := hn268.ext e400
    replace ha269 := ha269.ext e400
    replace hB279 := hB279.ext e400
    replace hn296 := hn296.ext e400
    replace ha297 := ha297.ext e400
    replace hB308 := hB308.ext e400
    replace hn325 := hn325.ext e400
    replace ha326 := ha326.ext e400
    replace hB338 := hB338.ext e400
    have hl_ha404 := Own.low ha404
    refine Sq.nil ?_
    refine Eq.goes (fun _ => (grown_trans (World.grownBy.refl w395 _) (Ext.to_grown e400 _))) ?_
    refine Gq.one 3 rfl (by kernel_rfl) ?_
    have hd417 := hB4.lt
    have hd418 := hB11.lt
    have hd419 := hB8.lt
    have hd420 := hB279.lt
    have hd421 := hB308.lt
    have hd422 := hB338.lt
    refine Sq.call fn17 .plain rfl rfl (eqAut_c _ b b _ _ _ _ (OwnRows.rows hn296) (Own.row ha297) (OwnRows.rows hn403) (Own.row ha404) ((hsm32 (by omega)).2)) ?_
    rintro _ w415 ⟨rfl, e416⟩
    have hs423 := Below.size E
    have hs424 := Below.size Ew
    have hs425 := Below.size e416
    replace E := E.trans e416
    replace hB4 := hB4.ext e416
    replace hB11 := hB11.ext e416
    replace hB8 := hB8.ext e416
    replace Ew := Ew.trans e416
    replace hn268 := hn268.ext e416
    replace ha269 := ha269.ext e416
    replace hB279 := hB279.ext e416
    replace hn296 := hn296.ext e416
    replace ha297 := ha297.ext e416
    replace hB308 := hB308.ext e416
    replace hn325 := hn325.ext e416
    replace ha326 := ha326.ext e416
    replace hB338 := hB338.ext e416
    refine Sq.beT (eqA_refl _) ?_
    refine Sq.nil ?_
    refine Eq.goes (fun _ => (grown_trans (grown_trans (World.grownBy.refl w395 _) (Ext.to_grown e400 _)) (Ext.to_grown e416 _))) ?_
    refine Gq.st 4 rfl (by kernel_rfl) rfl .plain rfl (fun _ _ _ h => h) (grown_trans (grown_trans (World.grownBy.refl w395 _) (Ext.to_grown e400 _)) (Ext.to_grown e416 _)) (fun w' x => Still.notT rfl) ?_
    refine Gq.done (by kernel_rfl) ?_
    refine Eq.next ?_
    refine Cq.els rfl ?_
    refine Cq.skip ?_
    refine Eq.next ?_
    refine Cq.seq ?_
    refine Cq.region ?_
    refine Sq.assign .plain rfl rfl ?_
    refine Sq.nil ?_
    refine Eq.next ?_
    refine Cq.seq ?_
    refine Cq.region ?_
    refine Sq.loadAgg agg27 .plain rfl rfl hB279 rfl ?_
    refine Sq.move .plain rfl rfl ?_
    have hcl := cntA_le (hsm21 (by omega)).2
    have hcn428 := cntA_nonneg a
    refine Sq.call fn18 .plain rfl rfl (markA_c _ wc8.heap.size w264.heap.size a _ _ 1 hn268 ha269 hl_ha269 (hsm21 (by omega)).2 (by omega)) ?_
    rintro _ w426 ⟨rfl, hn', ha', hwr427⟩
    have hs429 := hwr427.size
    replace E := Ext.wrote E hwr427 (by omega)
    replace hB4 := Blk.wrote hB4 hwr427 (by omega)
    replace hB11 := Blk.wrote hB11 hwr427 (by omega)
    replace hB8 := Blk.wrote hB8 hwr427 (by omega)
    replace Ew := Ext.wrote Ew hwr427 (by omega)
    replace hB279 := Blk.wrote hB279 hwr427 (by omega)
    replace hn296 := OwnRows.wrote hn296 hwr427 (by omega)
    replace ha297 := Own.wrote ha297 hwr427 (by omega)
    replace hB308 := Blk.wrote hB308 hwr427 (by omega)
    replace hn325 := OwnRows.wrote hn325 hwr427 (by omega)
    replace ha326 := Own.wrote ha326 hwr427 (by omega)
    replace hB338 := Blk.wrote hB338 hwr427 (by omega)
    clear hn' ha'
    refine Sq.assign .plain rfl rfl ?_
    refine Sq.nil ?_
    refine Eq.next ?_
    refine Cq.seq ?_
    refine Cq.region ?_
    refine Sq.loadAgg agg27 .plain rfl rfl hB308 rfl ?_
    refine Sq.move .plain rfl rfl ?_
    have hcl := cntA_le (hsm32 (by omega)).2
    have hcn432 := cntA_nonneg b
    refine Sq.call fn18 .plain rfl rfl (markA_c _ w287.heap.size w292.heap.size b _ _ (1 + cntA a) hn296 ha297 hl_ha297 (hsm32 (by omega)).2 (by omega)) ?_
    rintro _ w430 ⟨rfl, hn', ha', hwr431⟩
    have hs433 := hwr431.size
    replace E := Ext.wrote E hwr431 (by omega)
    replace hB4 := Blk.wrote hB4 hwr431 (by omega)
    replace hB11 := Blk.wrote hB11 hwr431 (by omega)
    replace hB8 := Blk.wrote hB8 hwr431 (by omega)
    replace Ew := Ext.wrote Ew hwr431 (by omega)
    replace hB279 := Blk.wrote hB279 hwr431 (by omega)
    replace hB308 := Blk.wrote hB308 hwr431 (by omega)
    replace hn325 := OwnRows.wrote hn325 hwr431 (by omega)
    replace ha326 := Own.wrote ha326 hwr431 (by omega)
    replace hB338 := Blk.wrote hB338 hwr431 (by omega)
    clear hn' ha'
    refine Sq.assign .plain rfl rfl ?_
    refine Sq.nil ?_
    refine Eq.next ?_
    refine Cq.seq ?_
    refine Cq.seq ?_
    refine Cq.region ?_
    refine Sq.move .plain rfl rfl ?_
    refine Sq.lss .plain rfl rfl rfl ?_
    refine Sq.isF (by omega) ?_
    refine Sq.move .plain rfl rfl ?_
    refine Sq.loadAgg agg27 (.met rfl rfl rfl) rfl rfl hB338 rfl ?_
    refine Sq.loadAgg agg27 (.met rfl rfl rfl) rfl rfl hB8 rfl ?_
    have hd437 := hB4.lt
    have hd438 := hB11.lt
    have hd439 := hB8.lt
    have hd440 := hB279.lt
    have hd441 := hB308.lt
    have hd442 := hB338.lt
    refine Sq.call fn17 (.met rfl rfl rfl) rfl rfl (eqAut_c _ (prodA a b k) (prodA a b k) _ _ _ _ (OwnRows.rows hn325) (Own.row ha326) (hnw.ext Ew) (haw.ext Ew) ((smx_valid (prod_valid hC)))) ?_
    rintro _ w435 ⟨rfl, e436⟩
    have hs443 := Below.size E
    have hs444 := Below.size Ew
    have hs445 := Below.size e436
    replace E := E.trans e436
    replace hB4 := hB4.ext e436
    replace hB11 := hB11.ext e436
    replace hB8 := hB8.ext e436
    replace Ew := Ew.trans e436
    replace hB279 := hB279.ext e436
    replace hB308 := hB308.ext e436
    replace hn325 := hn325.ext e436
    replace ha326 := ha326.ext e436
    replace hB338 := hB338.ext e436
    refine Sq.beT (eqA_refl _) ?_
    refine Sq.notT (.met rfl rfl rfl) rfl rfl ?_
    refine Sq.pickF .plain rfl rfl rfl ?_
    refine Sq.move .plain rfl rfl ?_
    refine Sq.move (.met rfl rfl rfl) rfl rfl ?_
    refine Sq.move (.met rfl rfl rfl) rfl rfl ?_
    refine Sq.neqB und4 (.met rfl rfl rfl) rfl rfl rfl ?_
    refine Sq.pickF .plain rfl rfl rfl ?_
    refine Sq.nil ?_
    refine Eq.next ?_
    refine Cq.els rfl ?_
    refine Cq.skip ?_
    refine Eq.next ?_
    refine Cq.seq ?_
    refine Cq.region ?_
    refine Sq.assign .plain rfl rfl ?_
    refine Sq.nil ?_
    refine Eq.next ?_
    refine Cq.seq ?_
    refine Cq.region ?_
    refine Sq.loadAgg agg27 .plain rfl rfl hB338 rfl ?_
    refine Sq.move .plain rfl rfl ?_
    have hcl := cntA_le (smx_valid (prod_valid hC))
    have hcn448 := cntA_nonneg (prodA a b k)
    refine Sq.call fn18 .plain rfl rfl (markA_c _ w317.heap.size w321.heap.size (prodA a b k) _ _ 1 hn325 ha326 hl_ha326 (smx_valid (prod_valid hC)) (by omega)) ?_
    rintro _ w446 ⟨rfl, hn', ha', hwr447⟩
    have hs449 := hwr447.size
    replace E := Ext.wrote E hwr447 (by omega)
    replace hB4 := Blk.wrote hB4 hwr447 (by omega)
    replace hB11 := Blk.wrote hB11 hwr447 (by omega)
    replace hB8 := Blk.wrote hB8 hwr447 (by omega)
    replace Ew := Ext.wrote Ew hwr447 (by omega)
    replace hB279 := Blk.wrote hB279 hwr447 (by omega)
    replace hB308 := Blk.wrote hB308 hwr447 (by omega)
    replace hB338 := Blk.wrote hB338 hwr447 (by omega)
    replace hn325 := hn'
    replace ha326 := ha'
    clear hn' ha'
    refine Sq.assign .plain rfl rfl ?_
    refine Sq.nil ?_
    refine Eq.next ?_
    refine Cq.seq ?_
    refine Cq.region ?_
    refine Sq.assign .plain rfl rfl ?_
    refine Sq.nil ?_
    refine Eq.next ?_
    refine Cq.seq ?_
    refine Cq.region ?_
    refine Sq.loadAgg agg27 .plain rfl rfl hB338 rfl ?_
    refine Sq.move .plain rfl rfl ?_
    have hd453 := hB4.lt
    have hd454 := hB11.lt
    have hd455 := hB8.lt
    have hd456 := hB279.lt
    have hd457 := hB308.lt
    have hd458 := hB338.lt
    refine Sq.call fn19 .plain rfl rfl (heldA_c _ (prodA a b k) _ _ 1 (OwnRows.rows hn325) (Own.row ha326) (smx_valid (prod_valid hC)) (by omega)) ?_
    rintro _ w451 ⟨rfl, e452⟩
    have hs459 := Below.size E
    have hs460 := Below.size Ew
    have hs461 := Below.size e452
    replace E := E.trans e452
    replace hB4 := hB4.ext e452
    replace hB11 := hB11.ext e452
    replace hB8 := hB8.ext e452
    replace Ew := Ew.trans e452
    replace hB279 := hB279.ext e452
    replace hB308 := hB308.ext e452
    replace hn325 := hn325.ext e452
    replace ha326 := ha326.ext e452
    replace hB338 := hB338.ext e452
    refine Sq.assign .plain rfl rfl ?_
    refine Sq.nil ?_
    refine Eq.next ?_
    refine Cq.seq ?_
    refine Cq.seq ?_
    refine Cq.region ?_
    refine Sq.move .plain rfl rfl ?_
    refine Sq.lss .plain rfl rfl rfl ?_
    refine Sq.isF (by omega) ?_
    refine Sq.nil ?_
    refine Eq.next ?_
    refine Cq.els rfl ?_
    refine Cq.skip ?_
    refine Eq.next ?_
    refine Cq.seq ?_
    refine Cq.seq ?_
    refine Cq.region ?_
    refine Sq.move .plain rfl rfl ?_
    refine Sq.move .plain rfl rfl ?_
    refine Sq.neq .plain rfl rfl rfl ?_
    refine Sq.isF (by omega) ?_
    refine Sq.nil ?_
    refine Eq.next ?_
    refine Cq.els rfl ?_
    refine Cq.skip ?_
    refine Eq.next ?_
    refine Cq.seq ?_
    refine Cq.drawS 11 (fun w' => Blk w' b1 25 [Value.int .i64 a.al, nx, ac] ∧ Blk w' b8 25 [Value.int .i64 b.al, nx', ac']) mixed (⟨hB4, hB11⟩) (fun w462 e463 hS => ?_)
    clear hS
    have hs464 := Below.size e463
    replace E := E.trans e463
    replace hB4 := hB4.ext e463
    replace hB11 := hB11.ext e463
    replace hB8 := hB8.ext e463
    replace Ew := Ew.trans e463
    replace hB279 := hB279.ext e463
    replace hB308 := hB308.ext e463
    replace hn325 := hn325.ext e463
    replace ha326 := ha326.ext e463
    replace hB338 := hB338.ext e463
    refine Gq.st 0 rfl (by kernel_rfl) rfl .plain rfl (fun _ _ _ h => h) ⟨hB4, hB11⟩ (fun w' x => Still.loadAgg agg25 rfl x.1 rfl) ?_
    refine Gq.st 2 rfl (by kernel_rfl) rfl .plain rfl (fun _ _ _ h => h) ⟨hB4, hB11⟩ (fun w' x => Still.loadAgg agg25 rfl x.2 rfl) ?_
    refine Gq.st 4 rfl (by kernel_rfl) rfl .plain rfl (fun _ _ _ h => h) ⟨hB4, hB11⟩ (fun w' x => Still.move rfl) ?_
    refine Gq.two 1 9 rfl rfl (by kernel_rfl) ?_ ?_
    · have hd472 := hB4.lt
      have hd473 := hB11.lt
      have hd474 := hB8.lt
      have hd475 := hB279.lt
      have hd476 := hB308.lt
      have hd477 := hB338.lt
      refine Sq.call fn15 .plain rfl rfl (toA_c _ a _ _ (hnx.ext E) (hac.ext E) (hsm21 (by omega)).2) ?_
      rintro _ w466 ⟨⟨nx468, ac469, rfl, hn470, ha471⟩, e467⟩
      have hs478 := Below.size E
      have hs479 := Below.size Ew
      have hs480 := Below.size e467
      replace E := E.trans e467
      replace hB4 := hB4.ext e467
      replace hB11 := hB11.ext e467
      replace hB8 := hB8.ext e467
      replace Ew := Ew.trans e467
      replace hB279 := hB279.ext e467
      replace hB308 := hB308.ext e467
      replace hn325 := hn325.ext e467
      replace ha326 := ha326.ext e467
      replace hB338 := hB338.ext e467
      have hl_ha471 := Own.low ha471
      refine Sq.nil ?_
      refine Eq.goes (fun _ => ⟨hB4, hB11⟩) ?_
      refine Gq.two 3 9 rfl rfl (by kernel_rfl) ?_ ?_
      · have hd488 := hB4.lt
        have hd489 := hB11.lt
        have hd490 := hB8.lt
        have hd491 := hB279.lt
        have hd492 := hB308.lt
        have hd493 := hB338.lt
        refine Sq.call fn15 .plain rfl rfl (toA_c _ b _ _ (hnx'.ext E) (hac'.ext E) (hsm32 (by omega)).2) ?_
        rintro _ w482 ⟨⟨nx484, ac485, rfl, hn486, ha487⟩, e483⟩
        have hs494 := Below.size E
        have hs495 := Below.size Ew
        have hs496 := Below.size e483
        replace E := E.trans e483
        replace hB4 := hB4.ext e483
        replace hB11 := hB11.ext e483
        replace hB8 := hB8.ext e483
        replace Ew := Ew.trans e483
        replace hB279 := hB279.ext e483
        replace hB308 := hB308.ext e483
        replace hn325 := hn325.ext e483
        replace ha326 := ha326.ext e483
        replace hB338 := hB338.ext e483
        replace hn470 := hn470.ext e483
        replace ha471 := ha471.ext e483
        have hl_ha487 := Own.low ha487
        refine Sq.nil ?_
        refine Eq.goes (fun _ => ⟨hB4, hB11⟩) ?_
        refine Gq.two 5 9 rfl rfl (by kernel_rfl) ?_ ?_
        · have hd503 := hB4.lt
          have hd504 := hB11.lt
          have hd505 := hB8.lt
          have hd506 := hB279.lt
          have hd507 := hB308.lt
          have hd508 := hB338.lt
          refine Sq.call fn21 .plain rfl rfl (prod_c_T _ a b _ _ _ _ (OwnRows.rows hn470) (Own.row ha471) (OwnRows.rows hn486) (Own.row ha487) k hC) ?_
          rintro _ w497 ⟨⟨_, rfl, nx499, ac500, rfl, hn501, ha502⟩, e498⟩
          have hs509 := Below.size E
          have hs510 := Below.size Ew
          have hs511 := Below.size e498
          replace E := E.trans e498
          replace hB4 := hB4.ext e498
          replace hB11 := hB11.ext e498
          replace hB8 := hB8.ext e498
          replace Ew := Ew.trans e498
          replace hB279 := hB279.ext e498
          replace hB308 := hB308.ext e498
          replace hn325 := hn325.ext e498
          replace ha326 := ha326.ext e498
          replace hB338 := hB338.ext e498
          have hl_ha502 := Own.low ha502
          refine Sq.nil ?_
          refine Eq.goes (fun _ => ⟨hB4, hB11⟩) ?_
          refine Gq.st 6 rfl (by kernel_rfl) rfl .plain rfl (fun _ _ _ h => h) ⟨hB4, hB11⟩ (fun w' x => Still.move rfl) ?_
          refine Gq.st 7 rfl (by kernel_rfl) rfl .plain rfl (fun _ _ _ h => h) ⟨hB4, hB11⟩ (fun w' x => Still.extract rfl rfl) ?_
          refine Gq.st 8 rfl (by kernel_rfl) rfl .plain rfl (fun _ _ _ h => h) ⟨hB4, hB11⟩ (fun w' x => Still.extract rfl rfl) ?_
          refine Gq.one 9 rfl (by kernel_rfl) ?_
          refine Sq.alloc zero27 .plain rfl (fun b512 w513 e514 hB515 hlo516 => ?_)
          have hd517 := Nat.le_trans (Below.size E) hlo516
          have hd518 := Nat.lt_of_lt_of_le hB4.lt hlo516
          have hd519 := Nat.lt_of_lt_of_le hB11.lt hlo516
          have hd520 := Nat.lt_of_lt_of_le hB8.lt hlo516
          have hd521 := Nat.le_trans (Below.size Ew) hlo516
          have hd522 := Nat.lt_of_lt_of_le hB279.lt hlo516
          have hd523 := Nat.lt_of_lt_of_le hB308.lt hlo516
          have hd524 := Nat.lt_of_lt_of_le hB338.lt hlo516
          have hs525 := Below.size e514
          replace E := E.trans e514
          replace hB4 := hB4.ext e514
          replace hB11 := hB11.ext e514
          replace hB8 := hB8.ext e514
          replace Ew := Ew.trans e514
          replace hB279 := hB279.ext e514
          replace hB308 := hB308.ext e514
          replace hn325 := hn325.ext e514
          replace ha326 := ha326.ext e514
          replace hB338 := hB338.ext e514
          replace hn501 := hn501.ext e514
          replace ha502 := ha502.ext e514
          refine Sq.nil ?_
          refine Eq.goes (fun _ => ⟨hB4, hB11⟩) ?_
          refine Gq.one 10 rfl (by kernel_rfl) ?_
          refine Sq.storeAgg agg27 .plain rfl rfl (one_cons rfl (one_cons (Rows.one (OwnRows.rows hn501)) (one_cons (Row.one (Own.row ha502)) one_nil))) hB515 rfl rfl (fun w526 g527 hB528 => ?_)
          have hs529 := World.grownBy.size g527
          replace E := E.grown g527 (fun k hk => by injection hk with hk; subst hk; omega)
          replace hB4 := hB4.grown g527 (by intro h; injection h with h; omega)
          replace hB11 := hB11.grown g527 (by intro h; injection h with h; omega)
          replace hB8 := hB8.grown g527 (by intro h; injection h with h; omega)
          replace Ew := Ew.grown g527 (fun k hk => by injection hk with hk; subst hk; omega)
          replace hB279 := hB279.grown g527 (by intro h; injection h with h; omega)
          replace hB308 := hB308.grown g527 (by intro h; injection h with h; omega)
          replace hn325 := hn325.stored g527 hB515 (by decide) (by decide)
          replace ha326 := ha326.stored g527 hB515 (by decide)
          replace hB338 := hB338.grown g527 (by intro h; injection h with h; omega)
          replace hn501 := hn501.stored g527 hB515 (by decide) (by decide)
          replace ha502 := ha502.stored g527 hB515 (by decide)
          replace hB515 := hB528
          refine Sq.nil ?_
          refine Eq.goes (fun _ => ⟨hB4, hB11⟩) ?_
          refine Gq.one 11 rfl (by kernel_rfl) ?_
          refine Sq.assign .plain rfl rfl ?_
          refine Sq.nil ?_
          refine Eq.goes (fun h => absurd h (by decide)) ?_
          refine Gq.done (by kernel_rfl) ?_
          refine Eq.next ?_
          refine Cq.seq ?_
          refine Cq.seq ?_
          refine Cq.region ?_
          refine Sq.loadAgg agg27 .plain rfl rfl hB515 rfl ?_
          refine Sq.loadAgg agg27 .plain rfl rfl hB8 rfl ?_
          have hd533 := hB4.lt
          have hd534 := hB11.lt
          have hd535 := hB8.lt
          have hd536 := hB279.lt
          have hd537 := hB308.lt
          have hd538 := hB338.lt
          have hd539 := hB515.lt
          refine Sq.call fn17 .plain rfl rfl (eqAut_c _ (prodA a b k) (prodA a b k) _ _ _ _ (OwnRows.rows hn501) (Own.row ha502) (hnw.ext Ew) (haw.ext Ew) ((smx_valid (prod_valid hC)))) ?_
          rintro _ w531 ⟨rfl, e532⟩
          have hs540 := Below.size E
          have hs541 := Below.size Ew
          have hs542 := Below.size e532
          replace E := E.trans e532
          replace hB4 := hB4.ext e532
          replace hB11 := hB11.ext e532
          replace hB8 := hB8.ext e532
          replace Ew := Ew.trans e532
          replace hB279 := hB279.ext e532
          replace hB308 := hB308.ext e532
          replace hn325 := hn325.ext e532
          replace ha326 := ha326.ext e532
          replace hB338 := hB338.ext e532
          replace hB515 := hB515.ext e532
          refine Sq.beT (eqA_refl _) ?_
          refine Sq.notT .plain rfl rfl ?_
          refine Sq.move .plain rfl rfl ?_
          refine Sq.move (.met rfl rfl rfl) rfl rfl ?_
          refine Sq.move (.met rfl rfl rfl) rfl rfl ?_
          refine Sq.neqB und4 (.met rfl rfl rfl) rfl rfl rfl ?_
          refine Sq.pickF .plain rfl rfl rfl ?_
          refine Sq.nil ?_
          refine Eq.next ?_
          refine Cq.els rfl ?_
          refine Cq.skip ?_
          refine Eq.next ?_
          refine Cq.seq ?_
          refine Cq.region ?_
          refine Sq.assign .plain rfl rfl ?_
          refine Sq.nil ?_
          refine Eq.next ?_
          refine Cq.seq ?_
          refine Cq.region ?_
          refine Sq.loadAgg agg27 .plain rfl rfl hB338 rfl ?_
          refine Sq.move .plain rfl rfl ?_
          have hd546 := hB4.lt
          have hd547 := hB11.lt
          have hd548 := hB8.lt
          have hd549 := hB279.lt
          have hd550 := hB308.lt
          have hd551 := hB338.lt
          have hd552 := hB515.lt
          refine Sq.call fn19 .plain rfl rfl (heldA_c _ (prodA a b k) _ _ 1 (OwnRows.rows hn325) (Own.row ha326) (smx_valid (prod_valid hC)) (by omega)) ?_
          rintro _ w544 ⟨rfl, e545⟩
          have hs553 := Below.size E
          have hs554 := Below.size Ew
          have hs555 := Below.size e545
          replace E := E.trans e545
          refine Sq.assign .plain rfl rfl ?_
          refine Sq.nil ?_
          refine Eq.next ?_
          refine Cq.seq ?_
          refine Cq.seq ?_
          refine Cq.region ?_
          refine Sq.move .plain rfl rfl ?_
          refine Sq.lss .plain rfl rfl rfl ?_
          refine Sq.isF (by omega) ?_
          refine Sq.nil ?_
          refine Eq.next ?_
          refine Cq.els rfl ?_
          refine Cq.skip ?_
          refine Eq.next ?_
          refine Cq.seq ?_
          refine Cq.seq ?_
          refine Cq.region ?_
          refine Sq.move .plain rfl rfl ?_
          refine Sq.move .plain rfl rfl ?_
          refine Sq.neq .plain rfl rfl rfl ?_
          refine Sq.isF (by omega) ?_
          refine Sq.nil ?_
          refine Eq.next ?_
          refine Cq.els rfl ?_
          refine Cq.skip ?_
          refine Eq.next ?_
          refine Cq.seq ?_
          refine Cq.region ?_
          refine Sq.assign .plain rfl rfl ?_
          refine Sq.nil ?_
          refine Eq.next ?_
          refine Cq.ret ?_
          refine Eq.ret1 rfl rfl ?_
          exact ⟨rfl, E⟩
        refine Sq.alloc zero27 .plain rfl (fun b556 w557 e558 hB559 hlo560 => ?_)
        have hd561 := Nat.le_trans (Below.size E) hlo560
        have hd562 := Nat.lt_of_lt_of_le hB4.lt hlo560
        have hd563 := Nat.lt_of_lt_of_le hB11.lt hlo560
        have hd564 := Nat.lt_of_lt_of_le hB8.lt hlo560
        have hd565 := Nat.le_trans (Below.size Ew) hlo560
        have hd566 := Nat.lt_of_lt_of_le hB279.lt hlo560
        have hd567 := Nat.lt_of_lt_of_le hB308.lt hlo560
        have hd568 := Nat.lt_of_lt_of_le hB338.lt hlo560
        have hs569 := Below.size e558
        replace E := E.trans e558
        replace hB4 := hB4.ext e558
        replace hB11 := hB11.ext e558
        replace hB8 := hB8.ext e558
        replace Ew := Ew.trans e558
        replace hB279 := hB279.ext e558
        replace hB308 := hB308.ext e558
        replace hn325 := hn325.ext e558
        replace ha326 := ha326.ext e558
        replace hB338 := hB338.ext e558
        replace hn470 := hn470.ext e558
        replace ha471 := ha471.ext e558
        replace hn486 := hn486.ext e558
        replace ha487 := ha487.ext e558
        refine Sq.nil ?_
        refine Eq.goes (fun _ => ⟨hB4, hB11⟩) ?_
        refine Gq.one 5 rfl (by kernel_rfl) ?_
        have hd576 := hB4.lt
        have hd577 := hB11.lt
        have hd578 := hB8.lt
        have hd579 := hB279.lt
        have hd580 := hB308.lt
        have hd581 := hB338.lt
        have hd582 := hB559.lt
        refine Sq.call fn21 .plain rfl rfl (prod_c_T _ a b _ _ _ _ (OwnRows.rows hn470) (Own.row ha471) (OwnRows.rows hn486) (Own.row ha487) k hC) ?_
        rintro _ w570 ⟨⟨_, rfl, nx572, ac573, rfl, hn574, ha575⟩, e571⟩
        have hs583 := Below.size E
        have hs584 := Below.size Ew
        have hs585 := Below.size e571
        replace E := E.trans e571
        replace hB4 := hB4.ext e571
        replace hB11 := hB11.ext e571
        replace hB8 := hB8.ext e571
        replace Ew := Ew.trans e571
        replace hB279 := hB279.ext e571
        replace hB308 := hB308.ext e571
        replace hn325 := hn325.ext e571
        replace ha326 := ha326.ext e571
        replace hB338 := hB338.ext e571
        replace hB559 := hB559.ext e571
        have hl_ha575 := Own.low ha575
        refine Sq.nil ?_
        refine Eq.goes (fun _ => ⟨hB4, hB11⟩) ?_
        refine Gq.st 6 rfl (by kernel_rfl) rfl .plain rfl (fun _ _ _ h => h) ⟨hB4, hB11⟩ (fun w' x => Still.move rfl) ?_
        refine Gq.st 7 rfl (by kernel_rfl) rfl .plain rfl (fun _ _ _ h => h) ⟨hB4, hB11⟩ (fun w' x => Still.extract rfl rfl) ?_
        refine Gq.st 8 rfl (by kernel_rfl) rfl .plain rfl (fun _ _ _ h => h) ⟨hB4, hB11⟩ (fun w' x => Still.extract rfl rfl) ?_
        refine Gq.one 10 rfl (by kernel_rfl) ?_
        refine Sq.storeAgg agg27 .plain rfl rfl (one_cons rfl (one_cons (Rows.one (OwnRows.rows hn574)) (one_cons (Row.one (Own.row ha575)) one_nil))) hB559 rfl rfl (fun w586 g587 hB588 => ?_)
        have hs589 := World.grownBy.size g587
        replace E := E.grown g587 (fun k hk => by injection hk with hk; subst hk; omega)
        replace hB4 := hB4.grown g587 (by intro h; injection h with h; omega)
        replace hB11 := hB11.grown g587 (by intro h; injection h with h; omega)
        replace hB8 := hB8.grown g587 (by intro h; injection h with h; omega)
        replace Ew := Ew.grown g587 (fun k hk => by injection hk with hk; subst hk; omega)
        replace hB279 := hB279.grown g587 (by intro h; injection h with h; omega)
        replace hB308 := hB308.grown g587 (by intro h; injection h with h; omega)
        replace hn325 := hn325.stored g587 hB559 (by decide) (by decide)
        replace ha326 := ha326.stored g587 hB559 (by decide)
        replace hB338 := hB338.grown g587 (by intro h; injection h with h; omega)
        replace hn574 := hn574.stored g587 hB559 (by decide) (by decide)
        replace ha575 := ha575.stored g587 hB559 (by decide)
        replace hB559 := hB588
        refine Sq.nil ?_
        refine Eq.goes (fun _ => ⟨hB4, hB11⟩) ?_
        refine Gq.one 11 rfl (by kernel_rfl) ?_
        refine Sq.assign .plain rfl rfl ?_
        refine Sq.nil ?_
        refine Eq.goes (fun h => absurd h (by decide)) ?_
        refine Gq.done (by kernel_rfl) ?_
        refine Eq.next ?_
        refine Cq.seq ?_
        refine Cq.seq ?_
        refine Cq.region ?_
        refine Sq.loadAgg agg27 .plain rfl rfl hB559 rfl ?_
        refine Sq.loadAgg agg27 .plain rfl rfl hB8 rfl ?_
        have hd593 := hB4.lt
        have hd594 := hB11.lt
        have hd595 := hB8.lt
        have hd596 := hB279.lt
        have hd597 := hB308.lt
        have hd598 := hB338.lt
        have hd599 := hB559.lt
        refine Sq.call fn17 .plain rfl rfl (eqAut_c _ (prodA a b k) (prodA a b k) _ _ _ _ (OwnRows.rows hn574) (Own.row ha575) (hnw.ext Ew) (haw.ext Ew) ((smx_valid (prod_valid hC)))) ?_
        rintro _ w591 ⟨rfl, e592⟩
        have hs600 := Below.size E
        have hs601 := Below.size Ew
        have hs602 := Below.size e592
        replace E := E.trans e592
        replace hB4 := hB4.ext e592
        replace hB11 := hB11.ext e592
        replace hB8 := hB8.ext e592
        replace Ew := Ew.trans e592
        replace hB279 := hB279.ext e592
        replace hB308 := hB308.ext e592
        replace hn325 := hn325.ext e592
        replace ha326 := ha326.ext e592
        replace hB338 := hB338.ext e592
        replace hB559 := hB559.ext e592
        refine Sq.beT (eqA_refl _) ?_
        refine Sq.notT .plain rfl rfl ?_
        refine Sq.move .plain rfl rfl ?_
        refine Sq.move (.met rfl rfl rfl) rfl rfl ?_
        refine Sq.move (.met rfl rfl rfl) rfl rfl ?_
        refine Sq.neqB und4 (.met rfl rfl rfl) rfl rfl rfl ?_
        refine Sq.pickF .plain rfl rfl rfl ?_
        refine Sq.nil ?_
        refine Eq.next ?_
        refine Cq.els rfl ?_
        refine Cq.skip ?_
        refine Eq.next ?_
        refine Cq.seq ?_
        refine Cq.region ?_
        refine Sq.assign .plain rfl rfl ?_
        refine Sq.nil ?_
        refine Eq.next ?_
        refine Cq.seq ?_
        refine Cq.region ?_
        refine Sq.loadAgg agg27 .plain rfl rfl hB338 rfl ?_
        refine Sq.move .plain rfl rfl ?_
        have hd606 := hB4.lt
        have hd607 := hB11.lt
        have hd608 := hB8.lt
        have hd609 := hB279.lt
        have hd610 := hB308.lt
        have hd611 := hB338.lt
        have hd612 := hB559.lt
        refine Sq.call fn19 .plain rfl rfl (heldA_c _ (prodA a b k) _ _ 1 (OwnRows.rows hn325) (Own.row ha326) (smx_valid (prod_valid hC)) (by omega)) ?_
        rintro _ w604 ⟨rfl, e605⟩
        have hs613 := Below.size E
        have hs614 := Below.size Ew
        have hs615 := Below.size e605
        replace E := E.trans e605
        refine Sq.assign .plain rfl rfl ?_
        refine Sq.nil ?_
        refine Eq.next ?_
        refine Cq.seq ?_
        refine Cq.seq ?_
        refine Cq.region ?_
        refine Sq.move .plain rfl rfl ?_
        refine Sq.lss .plain rfl rfl rfl ?_
        refine Sq.isF (by omega) ?_
        refine Sq.nil ?_
        refine Eq.next ?_
        refine Cq.els rfl ?_
        refine Cq.skip ?_
        refine Eq.next ?_
        refine Cq.seq ?_
        refine Cq.seq ?_
        refine Cq.region ?_
        refine Sq.move .plain rfl rfl ?_
        refine Sq.move .plain rfl rfl ?_
        refine Sq.neq .plain rfl rfl rfl ?_
        refine Sq.isF (by omega) ?_
        refine Sq.nil ?_
        refine Eq.next ?_
        refine Cq.els rfl ?_
        refine Cq.skip ?_
        refine Eq.next ?_
        refine Cq.seq ?_
        refine Cq.region ?_
        refine Sq.assign .plain rfl rfl ?_
        refine Sq.nil ?_
        refine Eq.next ?_
        refine Cq.ret ?_
        refine Eq.ret1 rfl rfl ?_
        exact ⟨rfl, E⟩
      refine Sq.alloc zero27 .plain rfl (fun b616 w617 e618 hB619 hlo620 => ?_)
      have hd621 := Nat.le_trans (Below.size E) hlo620
      have hd622 := Nat.lt_of_lt_of_le hB4.lt hlo620
      have hd623 := Nat.lt_of_lt_of_le hB11.lt hlo620
      have hd624 := Nat.lt_of_lt_of_le hB8.lt hlo620
      have hd625 := Nat.le_trans (Below.size Ew) hlo620
      have hd626 := Nat.lt_of_lt_of_le hB279.lt hlo620
      have hd627 := Nat.lt_of_lt_of_le hB308.lt hlo620
      have hd628 := Nat.lt_of_lt_of_le hB338.lt hlo620
      have hs629 := Below.size e618
      replace E := E.trans e618
      replace hB4 := hB4.ext e618
      replace hB11 := hB11.ext e618
      replace hB8 := hB8.ext e618
      replace Ew := Ew.trans e618
      replace hB279 := hB279.ext e618
      replace hB308 := hB308.ext e618
      replace hn325 := hn325.ext e618
      replace ha326 := ha326.ext e618
      replace hB338 := hB338.ext e618
      replace hn470 := hn470.ext e618
      replace ha471 := ha471.ext e618
      refine Sq.nil ?_
      refine Eq.goes (fun _ => ⟨hB4, hB11⟩) ?_
      refine Gq.one 3 rfl (by kernel_rfl) ?_
      have hd637 := hB4.lt
      have hd638 := hB11.lt
      have hd639 := hB8.lt
      have hd640 := hB279.lt
      have hd641 := hB308.lt
      have hd642 := hB338.lt
      have hd643 := hB619.lt
      refine Sq.call fn15 .plain rfl rfl (toA_c _ b _ _ (hnx'.ext E) (hac'.ext E) (hsm32 (by omega)).2) ?_
      rintro _ w631 ⟨⟨nx633, ac634, rfl, hn635, ha636⟩, e632⟩
      have hs644 := Below.size E
      have hs645 := Below.size Ew
      have hs646 := Below.size e632
      replace E := E.trans e632
      replace hB4 := hB4.ext e632
      replace hB11 := hB11.ext e632
      replace hB8 := hB8.ext e632
      replace Ew := Ew.trans e632
      replace hB279 := hB279.ext e632
      replace hB308 := hB308.ext e632
      replace hn325 := hn325.ext e632
      replace ha326 := ha326.ext e632
      replace hB338 := hB338.ext e632
      replace hn470 := hn470.ext e632
      replace ha471 := ha471.ext e632
      replace hB619 := hB619.ext e632
      have hl_ha636 := Own.low ha636
      refine Sq.nil ?_
      refine Eq.goes (fun _ => ⟨hB4, hB11⟩) ?_
      refine Gq.one 5 rfl (by kernel_rfl) ?_
      have hd653 := hB4.lt
      have hd654 := hB11.lt
      have hd655 := hB8.lt
      have hd656 := hB279.lt
      have hd657 := hB308.lt
      have hd658 := hB338.lt
      have hd659 := hB619.lt
      refine Sq.call fn21 .plain rfl rfl (prod_c_T _ a b _ _ _ _ (OwnRows.rows hn470) (Own.row ha471) (OwnRows.rows hn635) (Own.row ha636) k hC) ?_
      rintro _ w647 ⟨⟨_, rfl, nx649, ac650, rfl, hn651, ha652⟩, e648⟩
      have hs660 := Below.size E
      have hs661 := Below.size Ew
      have hs662 := Below.size e648
      replace E := E.trans e648
      replace hB4 := hB4.ext e648
      replace hB11 := hB11.ext e648
      replace hB8 := hB8.ext e648
      replace Ew := Ew.trans e648
      replace hB279 := hB279.ext e648
      replace hB308 := hB308.ext e648
      replace hn325 := hn325.ext e648
      replace ha326 := ha326.ext e648
      replace hB338 := hB338.ext e648
      replace hB619 := hB619.ext e648
      have hl_ha652 := Own.low ha652
      refine Sq.nil ?_
      refine Eq.goes (fun _ => ⟨hB4, hB11⟩) ?_
      refine Gq.st 6 rfl (by kernel_rfl) rfl .plain rfl (fun _ _ _ h => h) ⟨hB4, hB11⟩ (fun w' x => Still.move rfl) ?_
      refine Gq.st 7 rfl (by kernel_rfl) rfl .plain rfl (fun _ _ _ h => h) ⟨hB4, hB11⟩ (fun w' x => Still.extract rfl rfl) ?_
      refine Gq.st 8 rfl (by kernel_rfl) rfl .plain rfl (fun _ _ _ h => h) ⟨hB4, hB11⟩ (fun w' x => Still.extract rfl rfl) ?_
      refine Gq.one 10 rfl (by kernel_rfl) ?_
      refine Sq.storeAgg agg27 .plain rfl rfl (one_cons rfl (one_cons (Rows.one (OwnRows.rows hn651)) (one_cons (Row.one (Own.row ha652)) one_nil))) hB619 rfl rfl (fun w663 g664 hB665 => ?_)
      have hs666 := World.grownBy.size g664
      replace E := E.grown g664 (fun k hk => by injection hk with hk; subst hk; omega)
      replace hB4 := hB4.grown g664 (by intro h; injection h with h; omega)
      replace hB11 := hB11.grown g664 (by intro h; injection h with h; omega)
      replace hB8 := hB8.grown g664 (by intro h; injection h with h; omega)
      replace Ew := Ew.grown g664 (fun k hk => by injection hk with hk; subst hk; omega)
      replace hB279 := hB279.grown g664 (by intro h; injection h with h; omega)
      replace hB308 := hB308.grown g664 (by intro h; injection h with h; omega)
      replace hn325 := hn325.stored g664 hB619 (by decide) (by decide)
      replace ha326 := ha326.stored g664 hB619 (by decide)
      replace hB338 := hB338.grown g664 (by intro h; injection h with h; omega)
      replace hn651 := hn651.stored g664 hB619 (by decide) (by decide)
      replace ha652 := ha652.stored g664 hB619 (by decide)
      replace hB619 := hB665
      refine Sq.nil ?_
      refine Eq.goes (fun _ => ⟨hB4, hB11⟩) ?_
      refine Gq.one 11 rfl (by kernel_rfl) ?_
      refine Sq.assign .plain rfl rfl ?_
      refine Sq.nil ?_
      refine Eq.goes (fun h => absurd h (by decide)) ?_
      refine Gq.done (by kernel_rfl) ?_
      refine Eq.next ?_
      refine Cq.seq ?_
      refine Cq.seq ?_
      refine Cq.region ?_
      refine Sq.loadAgg agg27 .plain rfl rfl hB619 rfl ?_
      refine Sq.loadAgg agg27 .plain rfl rfl hB8 rfl ?_
      have hd670 := hB4.lt
      have hd671 := hB11.lt
      have hd672 := hB8.lt
      have hd673 := hB279.lt
      have hd674 := hB308.lt
      have hd675 := hB338.lt
      have hd676 := hB619.lt
      refine Sq.call fn17 .plain rfl rfl (eqAut_c _ (prodA a b k) (prodA a b k) _ _ _ _ (OwnRows.rows hn651) (Own.row ha652) (hnw.ext Ew) (haw.ext Ew) ((smx_valid (prod_valid hC)))) ?_
      rintro _ w668 ⟨rfl, e669⟩
      have hs677 := Below.size E
      have hs678 := Below.size Ew
      have hs679 := Below.size e669
      replace E := E.trans e669
      replace hB4 := hB4.ext e669
      replace hB11 := hB11.ext e669
      replace hB8 := hB8.ext e669
      replace Ew := Ew.trans e669
      replace hB279 := hB279.ext e669
      replace hB308 := hB308.ext e669
      replace hn325 := hn325.ext e669
      replace ha326 := ha326.ext e669
      replace hB338 := hB338.ext e669
      replace hB619 := hB619.ext e669
      refine Sq.beT (eqA_refl _) ?_
      refine Sq.notT .plain rfl rfl ?_
      refine Sq.move .plain rfl rfl ?_
      refine Sq.move (.met rfl rfl rfl) rfl rfl ?_
      refine Sq.move (.met rfl rfl rfl) rfl rfl ?_
      refine Sq.neqB und4 (.met rfl rfl rfl) rfl rfl rfl ?_
      refine Sq.pickF .plain rfl rfl rfl ?_
      refine Sq.nil ?_
      refine Eq.next ?_
      refine Cq.els rfl ?_
      refine Cq.skip ?_
      refine Eq.next ?_
      refine Cq.seq ?_
      refine Cq.region ?_
      refine Sq.assign .plain rfl rfl ?_
      refine Sq.nil ?_
      refine Eq.next ?_
      refine Cq.seq ?_
      refine Cq.region ?_
      refine Sq.loadAgg agg27 .plain rfl rfl hB338 rfl ?_
      refine Sq.move .plain rfl rfl ?_
      have hd683 := hB4.lt
      have hd684 := hB11.lt
      have hd685 := hB8.lt
      have hd686 := hB279.lt
      have hd687 := hB308.lt
      have hd688 := hB338.lt
      have hd689 := hB619.lt
      refine Sq.call fn19 .plain rfl rfl (heldA_c _ (prodA a b k) _ _ 1 (OwnRows.rows hn325) (Own.row ha326) (smx_valid (prod_valid hC)) (by omega)) ?_
      rintro _ w681 ⟨rfl, e682⟩
      have hs690 := Below.size E
      have hs691 := Below.size Ew
      have hs692 := Below.size e682
      replace E := E.trans e682
      refine Sq.assign .plain rfl rfl ?_
      refine Sq.nil ?_
      refine Eq.next ?_
      refine Cq.seq ?_
      refine Cq.seq ?_
      refine Cq.region ?_
      refine Sq.move .plain rfl rfl ?_
      refine Sq.lss .plain rfl rfl rfl ?_
      refine Sq.isF (by omega) ?_
      refine Sq.nil ?_
      refine Eq.next ?_
      refine Cq.els rfl ?_
      refine Cq.skip ?_
      refine Eq.next ?_
      refine Cq.seq ?_
      refine Cq.seq ?_
      refine Cq.region ?_
      refine Sq.move .plain rfl rfl ?_
      refine Sq.move .plain rfl rfl ?_
      refine Sq.neq .plain rfl rfl rfl ?_
      refine Sq.isF (by omega) ?_
      refine Sq.nil ?_
      refine Eq.next ?_
      refine Cq.els rfl ?_
      refine Cq.skip ?_
      refine Eq.next ?_
      refine Cq.seq ?_
      refine Cq.region ?_
      refine Sq.assign .plain rfl rfl ?_
      refine Sq.nil ?_
      refine Eq.next ?_
      refine Cq.ret ?_
      refine Eq.ret1 rfl rfl ?_
      exact ⟨rfl, E⟩
    refine Sq.alloc zero27 .plain rfl (fun b693 w694 e695 hB696 hlo697 => ?_)
    have hd698 := Nat.le_trans (Below.size E) hlo697
    have hd699 := Nat.lt_of_lt_of_le hB4.lt hlo697
    have hd700 := Nat.lt_of_lt_of_le hB11.lt hlo697
    have hd701 := Nat.lt_of_lt_of_le hB8.lt hlo697
    have hd702 := Nat.le_trans (Below.size Ew) hlo697
    have hd703 := Nat.lt_of_lt_of_le hB279.lt hlo697
    have hd704 := Nat.lt_of_lt_of_le hB308.lt hlo697
    have hd705 := Nat.lt_of_lt_of_le hB338.lt hlo697
    have hs706 := Below.size e695
    replace E := E.trans e695
    replace hB4 := hB4.ext e695
    replace hB11 := hB11.ext e695
    replace hB8 := hB8.ext e695
    replace Ew := Ew.trans e695
    replace hB279 := hB279.ext e695
    replace hB308 := hB308.ext e695
    replace hn325 := hn325.ext e695
    replace ha326 := ha326.ext e695
    replace hB338 := hB338.ext e695
    refine Sq.nil ?_
    refine Eq.goes (fun _ => ⟨hB4, hB11⟩) ?_
    refine Gq.one 1 rfl (by kernel_rfl) ?_
    have hd714 := hB4.lt
    have hd715 := hB11.lt
    have hd716 := hB8.lt
    have hd717 := hB279.lt
    have hd718 := hB308.lt
    have hd719 := hB338.lt
    have hd720 := hB696.lt
    refine Sq.call fn15 .plain rfl rfl (toA_c _ a _ _ (hnx.ext E) (hac.ext E) (hsm21 (by omega)).2) ?_
    rintro _ w708 ⟨⟨nx710, ac711, rfl, hn712, ha713⟩, e709⟩
    have hs721 := Below.size E
    have hs722 := Below.size Ew
    have hs723 := Below.size e709
    replace E := E.trans e709
    replace hB4 := hB4.ext e709
    replace hB11 := hB11.ext e709
    replace hB8 := hB8.ext e709
    replace Ew := Ew.trans e709
    replace hB279 := hB279.ext e709
    replace hB308 := hB308.ext e709
    replace hn325 := hn325.ext e709
    replace ha326 := ha326.ext e709
    replace hB338 := hB338.ext e709
    replace hB696 := hB696.ext e709
    have hl_ha713 := Own.low ha713
    refine Sq.nil ?_
    refine Eq.goes (fun _ => ⟨hB4, hB11⟩) ?_
    refine Gq.one 3 rfl (by kernel_rfl) ?_
    have hd731 := hB4.lt
    have hd732 := hB11.lt
    have hd733 := hB8.lt
    have hd734 := hB279.lt
    have hd735 := hB308.lt
    have hd736 := hB338.lt
    have hd737 := hB696.lt
    refine Sq.call fn15 .plain rfl rfl (toA_c _ b _ _ (hnx'.ext E) (hac'.ext E) (hsm32 (by omega)).2) ?_
    rintro _ w725 ⟨⟨nx727, ac728, rfl, hn729, ha730⟩, e726⟩
    have hs738 := Below.size E
    have hs739 := Below.size Ew
    have hs740 := Below.size e726
    replace E := E.trans e726
    replace hB4 := hB4.ext e726
    replace hB11 := hB11.ext e726
    replace hB8 := hB8.ext e726
    replace Ew := Ew.trans e726
    replace hB279 := hB279.ext e726
    replace hB308 := hB308.ext e726
    replace hn325 := hn325.ext e726
    replace ha326 := ha326.ext e726
    replace hB338 := hB338.ext e726
    replace hB696 := hB696.ext e726
    replace hn712 := hn712.ext e726
    replace ha713 := ha713.ext e726
    have hl_ha730 := Own.low ha730
    refine Sq.nil ?_
    refine Eq.goes (fun _ => ⟨hB4, hB11⟩) ?_
    refine Gq.one 5 rfl (by kernel_rfl) ?_
    have hd747 := hB4.lt
    have hd748 := hB11.lt
    have hd749 := hB8.lt
    have hd750 := hB279.lt
    have hd751 := hB308.lt
    have hd752 := hB338.lt
    have hd753 := hB696.lt
    refine Sq.call fn21 .plain rfl rfl (prod_c_T _ a b _ _ _ _ (OwnRows.rows hn712) (Own.row ha713) (OwnRows.rows hn729) (Own.row ha730) k hC) ?_
    rintro _ w741 ⟨⟨_, rfl, nx743, ac744, rfl, hn745, ha746⟩, e742⟩
    have hs754 := Below.size E
    have hs755 := Below.size Ew
    have hs756 := Below.size e742
    replace E := E.trans e742
    replace hB4 := hB4.ext e742
    replace hB11 := hB11.ext e742
    replace hB8 := hB8.ext e742
    replace Ew := Ew.trans e742
    replace hB279 := hB279.ext e742
    replace hB308 := hB308.ext e742
    replace hn325 := hn325.ext e742
    replace ha326 := ha326.ext e742
    replace hB338 := hB338.ext e742
    replace hB696 := hB696.ext e742
    have hl_ha746 := Own.low ha746
    refine Sq.nil ?_
    refine Eq.goes (fun _ => ⟨hB4, hB11⟩) ?_
    refine Gq.st 6 rfl (by kernel_rfl) rfl .plain rfl (fun _ _ _ h => h) ⟨hB4, hB11⟩ (fun w' x => Still.move rfl) ?_
    refine Gq.st 7 rfl (by kernel_rfl) rfl .plain rfl (fun _ _ _ h => h) ⟨hB4, hB11⟩ (fun w' x => Still.extract rfl rfl) ?_
    refine Gq.st 8 rfl (by kernel_rfl) rfl .plain rfl (fun _ _ _ h => h) ⟨hB4, hB11⟩ (fun w' x => Still.extract rfl rfl) ?_
    refine Gq.one 10 rfl (by kernel_rfl) ?_
    refine Sq.storeAgg agg27 .plain rfl rfl (one_cons rfl (one_cons (Rows.one (OwnRows.rows hn745)) (one_cons (Row.one (Own.row ha746)) one_nil))) hB696 rfl rfl (fun w757 g758 hB759 => ?_)
    have hs760 := World.grownBy.size g758
    replace E := E.grown g758 (fun k hk => by injection hk with hk; subst hk; omega)
    replace hB4 := hB4.grown g758 (by intro h; injection h with h; omega)
    replace hB11 := hB11.grown g758 (by intro h; injection h with h; omega)
    replace hB8 := hB8.grown g758 (by intro h; injection h with h; omega)
    replace Ew := Ew.grown g758 (fun k hk => by injection hk with hk; subst hk; omega)
    replace hB279 := hB279.grown g758 (by intro h; injection h with h; omega)
    replace hB308 := hB308.grown g758 (by intro h; injection h with h; omega)
    replace hn325 := hn325.stored g758 hB696 (by decide) (by decide)
    replace ha326 := ha326.stored g758 hB696 (by decide)
    replace hB338 := hB338.grown g758 (by intro h; injection h with h; omega)
    replace hn745 := hn745.stored g758 hB696 (by decide) (by decide)
    replace ha746 := ha746.stored g758 hB696 (by decide)
    replace hB696 := hB759
    refine Sq.nil ?_
    refine Eq.goes (fun _ => ⟨hB4, hB11⟩) ?_
    refine Gq.one 11 rfl (by kernel_rfl) ?_
    refine Sq.assign .plain rfl rfl ?_
    refine Sq.nil ?_
    refine Eq.goes (fun h => absurd h (by decide)) ?_
    refine Gq.done (by kernel_rfl) ?_
    refine Eq.next ?_
    refine Cq.seq ?_
    refine Cq.seq ?_
    refine Cq.region ?_
    refine Sq.loadAgg agg27 .plain rfl rfl hB696 rfl ?_
    refine Sq.loadAgg agg27 .plain rfl rfl hB8 rfl ?_
    have hd764 := hB4.lt
    have hd765 := hB11.lt
    have hd766 := hB8.lt
    have hd767 := hB279.lt
    have hd768 := hB308.lt
    have hd769 := hB338.lt
    have hd770 := hB696.lt
    refine Sq.call fn17 .plain rfl rfl (eqAut_c _ (prodA a b k) (prodA a b k) _ _ _ _ (OwnRows.rows hn745) (Own.row ha746) (hnw.ext Ew) (haw.ext Ew) ((smx_valid (prod_valid hC)))) ?_
    rintro _ w762 ⟨rfl, e763⟩
    have hs771 := Below.size E
    have hs772 := Below.size Ew
    have hs773 := Below.size e763
    replace E := E.trans e763
    replace hB4 := hB4.ext e763
    replace hB11 := hB11.ext e763
    replace hB8 := hB8.ext e763
    replace Ew := Ew.trans e763
    replace hB279 := hB279.ext e763
    replace hB308 := hB308.ext e763
    replace hn325 := hn325.ext e763
    replace ha326 := ha326.ext e763
    replace hB338 := hB338.ext e763
    replace hB696 := hB696.ext e763
    refine Sq.beT (eqA_refl _) ?_
    refine Sq.notT .plain rfl rfl ?_
    refine Sq.move .plain rfl rfl ?_
    refine Sq.move (.met rfl rfl rfl) rfl rfl ?_
    refine Sq.move (.met rfl rfl rfl) rfl rfl ?_
    refine Sq.neqB und4 (.met rfl rfl rfl) rfl rfl rfl ?_
    refine Sq.pickF .plain rfl rfl rfl ?_
    refine Sq.nil ?_
    refine Eq.next ?_
    refine Cq.els rfl ?_
    refine Cq.skip ?_
    refine Eq.next ?_
    refine Cq.seq ?_
    refine Cq.region ?_
    refine Sq.assign .plain rfl rfl ?_
    refine Sq.nil ?_
    refine Eq.next ?_
    refine Cq.seq ?_
    refine Cq.region ?_
    refine Sq.loadAgg agg27 .plain rfl rfl hB338 rfl ?_
    refine Sq.move .plain rfl rfl ?_
    have hd777 := hB4.lt
    have hd778 := hB11.lt
    have hd779 := hB8.lt
    have hd780 := hB279.lt
    have hd781 := hB308.lt
    have hd782 := hB338.lt
    have hd783 := hB696.lt
    refine Sq.call fn19 .plain rfl rfl (heldA_c _ (prodA a b k) _ _ 1 (OwnRows.rows hn325) (Own.row ha326) (smx_valid (prod_valid hC)) (by omega)) ?_
    rintro _ w775 ⟨rfl, e776⟩
    have hs784 := Below.size E
    have hs785 := Below.size Ew
    have hs786 := Below.size e776
    replace E := E.trans e776
    refine Sq.assign .plain rfl rfl ?_
    refine Sq.nil ?_
    refine Eq.next ?_
    refine Cq.seq ?_
    refine Cq.seq ?_
    refine Cq.region ?_
    refine Sq.move .plain rfl rfl ?_
    refine Sq.lss .plain rfl rfl rfl ?_
    refine Sq.isF (by omega) ?_
    refine Sq.nil ?_
    refine Eq.next ?_
    refine Cq.els rfl ?_
    refine Cq.skip ?_
    refine Eq.next ?_
    refine Cq.seq ?_
    refine Cq.seq ?_
    refine Cq.region ?_
    refine Sq.move .plain rfl rfl ?_
    refine Sq.move .plain rfl rfl ?_
    refine Sq.neq .plain rfl rfl rfl ?_
    refine Sq.isF (by omega) ?_
    refine Sq.nil ?_
    refine Eq.next ?_
    refine Cq.els rfl ?_
    refine Cq.skip ?_
    refine Eq.next ?_
    refine Cq.seq ?_
    refine Cq.region ?_
    refine Sq.assign .plain rfl rfl ?_
    refine Sq.nil ?_
    refine Eq.next ?_
    refine Cq.ret ?_
    refine Eq.ret1 rfl rfl ?_
    exact ⟨rfl, E⟩
  have Ew := Ext.refl wc8
  refine Eq.next ?_
  refine Cq.seq ?_
  refine Cq.region ?_
  refine Sq.loadAgg agg25 .plain rfl rfl hB4 rfl ?_
  have hd794 := hB4.lt
  have hd795 := hB11.lt
  have hd796 := hB8.lt
  refine Sq.call fn15 .plain rfl rfl (toA_c _ a _ _ (hnx.ext E) (hac.ext E) (hsm21 (by omega)).2) ?_
  rintro _ w788 ⟨⟨nx790, ac791, rfl, hn792, ha793⟩, e789⟩
  have hs797 := Below.size E
  have hs798 := Below.size Ew
  have hs799 := Below.size e789
  replace E := E.trans e789
  replace hB4 := hB4.ext e789
  replace hB11 := hB11.ext e789
  replace hB8 := hB8.ext e789
  replace Ew := Ew.trans e789
  have hl_ha793 := Own.low ha793
  refine Sq.alloc zero27 .plain rfl (fun b800 w801 e802 hB803 hlo804 => ?_)
  have hd805 := Nat.le_trans (Below.size E) hlo804
  have hd806 := Nat.lt_of_lt_of_le hB4.lt hlo804
  have hd807 := Nat.lt_of_lt_of_le hB11.lt hlo804
  have hd808 := Nat.lt_of_lt_of_le hB8.lt hlo804
  have hd809 := Nat.le_trans (Below.size Ew) hlo804
  have hs810 := Below.size e802
  replace E := E.trans e802
  replace hB4 := hB4.ext e802
  replace hB11 := hB11.ext e802
  replace hB8 := hB8.ext e802
  replace Ew := Ew.trans e802
  replace hn792 := hn792.ext e802
  replace ha793 := ha793.ext e802
  refine Sq.storeAgg agg27 .plain rfl rfl (one_cons rfl (one_cons (Rows.one (OwnRows.rows hn792)) (one_cons (Row.one (Own.row ha793)) one_nil))) hB803 rfl rfl (fun w811 g812 hB813 => ?_)
  have hs814 := World.grownBy.size g812
  replace E := E.grown g812 (fun k hk => by injection hk with hk; subst hk; omega)
  replace hB4 := hB4.grown g812 (by intro h; injection h with h; omega)
  replace hB11 := hB11.grown g812 (by intro h; injection h with h; omega)
  replace hB8 := hB8.grown g812 (by intro h; injection h with h; omega)
  replace Ew := Ew.grown g812 (fun k hk => by injection hk with hk; subst hk; omega)
  replace hn792 := hn792.stored g812 hB803 (by decide) (by decide)
  replace ha793 := ha793.stored g812 hB803 (by decide)
  replace hB803 := hB813
  refine Sq.nil ?_
  refine Eq.next ?_
  refine Cq.seq ?_
  refine Cq.region ?_
  refine Sq.loadAgg agg25 .plain rfl rfl hB11 rfl ?_
  have hd822 := hB4.lt
  have hd823 := hB11.lt
  have hd824 := hB8.lt
  have hd825 := hB803.lt
  refine Sq.call fn15 .plain rfl rfl (toA_c _ b _ _ (hnx'.ext E) (hac'.ext E) (hsm32 (by omega)).2) ?_
  rintro _ w816 ⟨⟨nx818, ac819, rfl, hn820, ha821⟩, e817⟩
  have hs826 := Below.size E
  have hs827 := Below.size Ew
  have hs828 := Below.size e817
  replace E := E.trans e817
  replace hB4 := hB4.ext e817
  replace hB11 := hB11.ext e817
  replace hB8 := hB8.ext e817
  replace Ew := Ew.trans e817
  replace hn792 := hn792.ext e817
  replace ha793 := ha793.ext e817
  replace hB803 := hB803.ext e817
  have hl_ha821 := Own.low ha821
  refine Sq.alloc zero27 .plain rfl (fun b829 w830 e831 hB832 hlo833 => ?_)
  have hd834 := Nat.le_trans (Below.size E) hlo833
  have hd835 := Nat.lt_of_lt_of_le hB4.lt hlo833
  have hd836 := Nat.lt_of_lt_of_le hB11.lt hlo833
  have hd837 := Nat.lt_of_lt_of_le hB8.lt hlo833
  have hd838 := Nat.le_trans (Below.size Ew) hlo833
  have hd839 := Nat.lt_of_lt_of_le hB803.lt hlo833
  have hs840 := Below.size e831
  replace E := E.trans e831
  replace hB4 := hB4.ext e831
  replace hB11 := hB11.ext e831
  replace hB8 := hB8.ext e831
  replace Ew := Ew.trans e831
  replace hn792 := hn792.ext e831
  replace ha793 := ha793.ext e831
  replace hB803 := hB803.ext e831
  replace hn820 := hn820.ext e831
  replace ha821 := ha821.ext e831
  refine Sq.storeAgg agg27 .plain rfl rfl (one_cons rfl (one_cons (Rows.one (OwnRows.rows hn820)) (one_cons (Row.one (Own.row ha821)) one_nil))) hB832 rfl rfl (fun w841 g842 hB843 => ?_)
  have hs844 := World.grownBy.size g842
  replace E := E.grown g842 (fun k hk => by injection hk with hk; subst hk; omega)
  replace hB4 := hB4.grown g842 (by intro h; injection h with h; omega)
  replace hB11 := hB11.grown g842 (by intro h; injection h with h; omega)
  replace hB8 := hB8.grown g842 (by intro h; injection h with h; omega)
  replace Ew := Ew.grown g842 (fun k hk => by injection hk with hk; subst hk; omega)
  replace hn792 := hn792.stored g842 hB832 (by decide) (by decide)
  replace ha793 := ha793.stored g842 hB832 (by decide)
  replace hB803 := hB803.grown g842 (by intro h; injection h with h; omega)
  replace hn820 := hn820.stored g842 hB832 (by decide) (by decide)
  replace ha821 := ha821.stored g842 hB832 (by decide)
  replace hB832 := hB843
  refine Sq.nil ?_
  refine Eq.next ?_
  refine Cq.seq ?_
  refine Cq.region ?_
  refine Sq.loadAgg agg27 .plain rfl rfl hB803 rfl ?_
  refine Sq.loadAgg agg27 .plain rfl rfl hB832 rfl ?_
  refine Sq.move .plain rfl rfl ?_
  have hd851 := hB4.lt
  have hd852 := hB11.lt
  have hd853 := hB8.lt
  have hd854 := hB803.lt
  have hd855 := hB832.lt
  refine Sq.call fn21 .plain rfl rfl (prod_c_F _ a b _ _ _ _ (OwnRows.rows hn792) (Own.row ha793) (OwnRows.rows hn820) (Own.row ha821) k hC) ?_
  rintro _ w845 ⟨⟨_, rfl, nx847, ac848, rfl, hn849, ha850⟩, e846⟩
  have hs856 := Below.size E
  have hs857 := Below.size Ew
  have hs858 := Below.size e846
  replace E := E.trans e846
  replace hB4 := hB4.ext e846
  replace hB11 := hB11.ext e846
  replace hB8 := hB8.ext e846
  replace Ew := Ew.trans e846
  replace hn792 := hn792.ext e846
  replace ha793 := ha793.ext e846
  replace hB803 := hB803.ext e846
  replace hn820 := hn820.ext e846
  replace ha821 := ha821.ext e846
  replace hB832 := hB832.ext e846
  have hl_ha850 := Own.low ha850
  refine Sq.move .plain rfl rfl ?_
  refine Sq.extract .plain rfl rfl rfl ?_
  refine Sq.extract .plain rfl rfl rfl ?_
  refine Sq.alloc zero27 .plain rfl (fun b859 w860 e861 hB862 hlo863 => ?_)
  have hd864 := Nat.le_trans (Below.size E) hlo863
  have hd865 := Nat.lt_of_lt_of_le hB4.lt hlo863
  have hd866 := Nat.lt_of_lt_of_le hB11.lt hlo863
  have hd867 := Nat.lt_of_lt_of_le hB8.lt hlo863
  have hd868 := Nat.le_trans (Below.size Ew) hlo863
  have hd869 := Nat.lt_of_lt_of_le hB803.lt hlo863
  have hd870 := Nat.lt_of_lt_of_le hB832.lt hlo863
  have hs871 := Below.size e861
  replace E := E.trans e861
  replace hB4 := hB4.ext e861
  replace hB11 := hB11.ext e861
  replace hB8 := hB8.ext e861
  replace Ew := Ew.trans e861
  replace hn792 := hn792.ext e861
  replace ha793 := ha793.ext e861
  replace hB803 := hB803.ext e861
  replace hn820 := hn820.ext e861
  replace ha821 := ha821.ext e861
  replace hB832 := hB832.ext e861
  replace hn849 := hn849.ext e861
  replace ha850 := ha850.ext e861
  refine Sq.storeAgg agg27 .plain rfl rfl (one_cons rfl (one_cons (Rows.one (OwnRows.rows hn849)) (one_cons (Row.one (Own.row ha850)) one_nil))) hB862 rfl rfl (fun w872 g873 hB874 => ?_)
  have hs875 := World.grownBy.size g873
  replace E := E.grown g873 (fun k hk => by injection hk with hk; subst hk; omega)
  replace hB4 := hB4.grown g873 (by intro h; injection h with h; omega)
  replace hB11 := hB11.grown g873 (by intro h; injection h with h; omega)
  replace hB8 := hB8.grown g873 (by intro h; injection h with h; omega)
  replace Ew := Ew.grown g873 (fun k hk => by injection hk with hk; subst hk; omega)
  replace hn792 := hn792.stored g873 hB862 (by decide) (by decide)
  replace ha793 := ha793.stored g873 hB862 (by decide)
  replace hB803 := hB803.grown g873 (by intro h; injection h with h; omega)
  replace hn820 := hn820.stored g873 hB862 (by decide) (by decide)
  replace ha821 := ha821.stored g873 hB862 (by decide)
  replace hB832 := hB832.grown g873 (by intro h; injection h with h; omega)
  replace hn849 := hn849.stored g873 hB862 (by decide) (by decide)
  replace ha850 := ha850.stored g873 hB862 (by decide)
  replace hB862 := hB874
  refine Sq.assign .plain rfl rfl ?_
  refine Sq.nil ?_
  refine Eq.next ?_
  refine Cq.seq ?_
  refine Cq.seq ?_
  refine Cq.region ?_
  refine Sq.loadAgg agg27 .plain rfl rfl hB862 rfl ?_
  refine Sq.loadAgg agg27 .plain rfl rfl hB8 rfl ?_
  have hd879 := hB4.lt
  have hd880 := hB11.lt
  have hd881 := hB8.lt
  have hd882 := hB803.lt
  have hd883 := hB832.lt
  have hd884 := hB862.lt
  refine Sq.call fn17 .plain rfl rfl (eqAut_c _ zeroA zeroA _ _ _ _ (OwnRows.rows hn849) (Own.row ha850) (hnw.ext Ew) (haw.ext Ew) (smx_zero)) ?_
  rintro _ w877 ⟨rfl, e878⟩
  have hs885 := Below.size E
  have hs886 := Below.size Ew
  have hs887 := Below.size e878
  replace E := E.trans e878
  replace hB4 := hB4.ext e878
  replace hB11 := hB11.ext e878
  replace hB8 := hB8.ext e878
  replace Ew := Ew.trans e878
  replace hn792 := hn792.ext e878
  replace ha793 := ha793.ext e878
  replace hB803 := hB803.ext e878
  replace hn820 := hn820.ext e878
  replace ha821 := ha821.ext e878
  replace hB832 := hB832.ext e878
  replace hn849 := hn849.ext e878
  replace ha850 := ha850.ext e878
  replace hB862 := hB862.ext e878
  refine Sq.beT (eqA_refl _) ?_
  refine Sq.notT .plain rfl rfl ?_
  refine Sq.move .plain rfl rfl ?_
  refine Sq.move (.met rfl rfl rfl) rfl rfl ?_
  refine Sq.move (.met rfl rfl rfl) rfl rfl ?_
  refine Sq.neqB und4 (.met rfl rfl rfl) rfl rfl rfl ?_
  refine Sq.pickF .plain rfl rfl rfl ?_
  refine Sq.nil ?_
  refine Eq.next ?_
  refine Cq.els rfl ?_
  refine Cq.skip ?_
  refine Eq.next ?_
  refine Cq.seq ?_
  refine Cq.seq ?_
  refine Cq.draw 5 none mixed (fun w888 e889 => ?_)
  have hs890 := Below.size e889
  replace E := E.trans e889
  replace hB4 := hB4.ext e889
  replace hB11 := hB11.ext e889
  replace hB8 := hB8.ext e889
  replace Ew := Ew.trans e889
  replace hn792 := hn792.ext e889
  replace ha793 := ha793.ext e889
  replace hB803 := hB803.ext e889
  replace hn820 := hn820.ext e889
  replace ha821 := ha821.ext e889
  replace hB832 := hB832.ext e889
  replace hn849 := hn849.ext e889
  replace ha850 := ha850.ext e889
  replace hB862 := hB862.ext e889
  have hB4_w888 := hB4
  have hB803_w888 := hB803
  refine Gq.st 0 rfl (by kernel_rfl) rfl .plain rfl (fun _ _ _ h => h) (World.grownBy.refl w888 _) (fun w' x => Still.loadAgg agg27 rfl (hB803_w888.ext (Ext.of_grown x)) rfl) ?_
  refine Gq.st 1 rfl (by kernel_rfl) rfl .plain rfl (fun _ _ _ h => h) (World.grownBy.refl w888 _) (fun w' x => Still.loadAgg agg25 rfl (hB4_w888.ext (Ext.of_grown x)) rfl) ?_
  refine Gq.one 2 rfl (by kernel_rfl) ?_
  have hd898 := hB4.lt
  have hd899 := hB11.lt
  have hd900 := hB8.lt
  have hd901 := hB803.lt
  have hd902 := hB832.lt
  have hd903 := hB862.lt
  refine Sq.call fn15 .plain rfl rfl (toA_c _ a _ _ (hnx.ext E) (hac.ext E) (hsm21 (by omega)).2) ?_
  rintro _ w892 ⟨⟨nx894, ac895, rfl, hn896, ha897⟩, e893⟩
  have hs904 := Below.size E
  have hs905 := Below.size Ew
  have hs906 := Below.size e893
  replace E := E.trans e893
  replace hB4 := hB4.ext e893
  replace hB11 := hB11.ext e893
  replace hB8 := hB8.ext e893
  replace Ew := Ew.trans e893
  replace hn792 := hn792.ext e893
  replace ha793 := ha793.ext e893
  replace hB803 := hB803.ext e893
  replace hn820 := hn820.ext e893
  replace ha821 := ha821.ext e893
  replace hB832 := hB832.ext e893
  replace hn849 := hn849.ext e893
  replace ha850 := ha850.ext e893
  replace hB862 := hB862.ext e893
  have hl_ha897 := Own.low ha897
  refine Sq.nil ?_
  refine Eq.goes (fun _ => (grown_trans (World.grownBy.refl w888 _) (Ext.to_grown e893 _))) ?_
  refine Gq.one 3 rfl (by kernel_rfl) ?_
  have hd910 := hB4.lt
  have hd911 := hB11.lt
  have hd912 := hB8.lt
  have hd913 := hB803.lt
  have hd914 := hB832.lt
  have hd915 := hB862.lt
  refine Sq.call fn17 .plain rfl rfl (eqAut_c _ a a _ _ _ _ (OwnRows.rows hn792) (Own.row ha793) (OwnRows.rows hn896) (Own.row ha897) ((hsm21 (by omega)).2)) ?_
  rintro _ w908 ⟨rfl, e909⟩
  have hs916 := Below.size E
  have hs917 := Below.size Ew
  have hs918 := Below.size e909
  replace E := E.trans e909
  replace hB4 := hB4.ext e909
  replace hB11 := hB11.ext e909
  replace hB8 := hB8.ext e909
  replace Ew := Ew.trans e909
  replace hn792 := hn792.ext e909
  replace ha793 := ha793.ext e909
  replace hB803 := hB803.ext e909
  replace hn820 := hn820.ext e909
  replace ha821 := ha821.ext e909
  replace hB832 := hB832.ext e909
  replace hn849 := hn849.ext e909
  replace ha850 := ha850.ext e909
  replace hB862 := hB862.ext e909
  refine Sq.beT (eqA_refl _) ?_
  refine Sq.nil ?_
  refine Eq.goes (fun _ => (grown_trans (grown_trans (World.grownBy.refl w888 _) (Ext.to_grown e893 _)) (Ext.to_grown e909 _))) ?_
  refine Gq.st 4 rfl (by kernel_rfl) rfl .plain rfl (fun _ _ _ h => h) (grown_trans (grown_trans (World.grownBy.refl w888 _) (Ext.to_grown e893 _)) (Ext.to_grown e909 _)) (fun w' x => Still.notT rfl) ?_
  refine Gq.done (by kernel_rfl) ?_
  refine Eq.next ?_
  refine Cq.els rfl ?_
  refine Cq.skip ?_
  refine Eq.next ?_
  refine Cq.seq ?_
  refine Cq.seq ?_
  refine Cq.draw 5 none mixed (fun w919 e920 => ?_)
  have hs921 := Below.size e920
  replace E := E.trans e920
  replace hB4 := hB4.ext e920
  replace hB11 := hB11.ext e920
  replace hB8 := hB8.ext e920
  replace Ew := Ew.trans e920
  replace hn792 := hn792.ext e920
  replace ha793 := ha793.ext e920
  replace hB803 := hB803.ext e920
  replace hn820 := hn820.ext e920
  replace ha821 := ha821.ext e920
  replace hB832 := hB832.ext e920
  replace hn849 := hn849.ext e920
  replace ha850 := ha850.ext e920
  replace hB862 := hB862.ext e920
  have hB11_w919 := hB11
  have hB832_w919 := hB832
  refine Gq.st 0 rfl (by kernel_rfl) rfl .plain rfl (fun _ _ _ h => h) (World.grownBy.refl w919 _) (fun w' x => Still.loadAgg agg27 rfl (hB832_w919.ext (Ext.of_grown x)) rfl) ?_
  refine Gq.st 1 rfl (by kernel_rfl) rfl .plain rfl (fun _ _ _ h => h) (World.grownBy.refl w919 _) (fun w' x => Still.loadAgg agg25 rfl (hB11_w919.ext (Ext.of_grown x)) rfl) ?_
  refine Gq.one 2 rfl (by kernel_rfl) ?_
  have hd929 := hB4.lt
  have hd930 := hB11.lt
  have hd931 := hB8.lt
  have hd932 := hB803.lt
  have hd933 := hB832.lt
  have hd934 := hB862.lt
  refine Sq.call fn15 .plain rfl rfl (toA_c _ b _ _ (hnx'.ext E) (hac'.ext E) (hsm32 (by omega)).2) ?_
  rintro _ w923 ⟨⟨nx925, ac926, rfl, hn927, ha928⟩, e924⟩
  have hs935 := Below.size E
  have hs936 := Below.size Ew
  have hs937 := Below.size e924
  replace E := E.trans e924
  replace hB4 := hB4.ext e924
  replace hB11 := hB11.ext e924
  replace hB8 := hB8.ext e924
  replace Ew := Ew.trans e924
  replace hn792 := hn792.ext e924
  replace ha793 := ha793.ext e924
  replace hB803 := hB803.ext e924
  replace hn820 := hn820.ext e924
  replace ha821 := ha821.ext e924
  replace hB832 := hB832.ext e924
  replace hn849 := hn849.ext e924
  replace ha850 := ha850.ext e924
  replace hB862 := hB862.ext e924
  have hl_ha928 := Own.low ha928
  refine Sq.nil ?_
  refine Eq.goes (fun _ => (grown_trans (World.grownBy.refl w919 _) (Ext.to_grown e924 _))) ?_
  refine Gq.one 3 rfl (by kernel_rfl) ?_
  have hd941 := hB4.lt
  have hd942 := hB11.lt
  have hd943 := hB8.lt
  have hd944 := hB803.lt
  have hd945 := hB832.lt
  have hd946 := hB862.lt
  refine Sq.call fn17 .plain rfl rfl (eqAut_c _ b b _ _ _ _ (OwnRows.rows hn820) (Own.row ha821) (OwnRows.rows hn927) (Own.row ha928) ((hsm32 (by omega)).2)) ?_
  rintro _ w939 ⟨rfl, e940⟩
  have hs947 := Below.size E
  have hs948 := Below.size Ew
  have hs949 := Below.size e940
  replace E := E.trans e940
  replace hB4 := hB4.ext e940
  replace hB11 := hB11.ext e940
  replace hB8 := hB8.ext e940
  replace Ew := Ew.trans e940
  replace hn792 := hn792.ext e940
  replace ha793 := ha793.ext e940
  replace hB803 := hB803.ext e940
  replace hn820 := hn820.ext e940
  replace ha821 := ha821.ext e940
  replace hB832 := hB832.ext e940
  replace hn849 := hn849.ext e940
  replace ha850 := ha850.ext e940
  replace hB862 := hB862.ext e940
  refine Sq.beT (eqA_refl _) ?_
  refine Sq.nil ?_
  refine Eq.goes (fun _ => (grown_trans (grown_trans (World.grownBy.refl w919 _) (Ext.to_grown e924 _)) (Ext.to_grown e940 _))) ?_
  refine Gq.st 4 rfl (by kernel_rfl) rfl .plain rfl (fun _ _ _ h => h) (grown_trans (grown_trans (World.grownBy.refl w919 _) (Ext.to_grown e924 _)) (Ext.to_grown e940 _)) (fun w' x => Still.notT rfl) ?_
  refine Gq.done (by kernel_rfl) ?_
  refine Eq.next ?_
  refine Cq.els rfl ?_
  refine Cq.skip ?_
  refine Eq.next ?_
  refine Cq.seq ?_
  refine Cq.region ?_
  refine Sq.assign .plain rfl rfl ?_
  refine Sq.nil ?_
  refine Eq.next ?_
  refine Cq.seq ?_
  refine Cq.region ?_
  refine Sq.loadAgg agg27 .plain rfl rfl hB803 rfl ?_
  refine Sq.move .plain rfl rfl ?_
  have hcl := cntA_le (hsm21 (by omega)).2
  have hcn952 := cntA_nonneg a
  refine Sq.call fn18 .plain rfl rfl (markA_c _ wc8.heap.size w788.heap.size a _ _ 1 hn792 ha793 hl_ha793 (hsm21 (by omega)).2 (by omega)) ?_
  rintro _ w950 ⟨rfl, hn', ha', hwr951⟩
  have hs953 := hwr951.size
  replace E := Ext.wrote E hwr951 (by omega)
  replace hB4 := Blk.wrote hB4 hwr951 (by omega)
  replace hB11 := Blk.wrote hB11 hwr951 (by omega)
  replace hB8 := Blk.wrote hB8 hwr951 (by omega)
  replace Ew := Ext.wrote Ew hwr951 (by omega)
  replace hB803 := Blk.wrote hB803 hwr951 (by omega)
  replace hn820 := OwnRows.wrote hn820 hwr951 (by omega)
  replace ha821 := Own.wrote ha821 hwr951 (by omega)
  replace hB832 := Blk.wrote hB832 hwr951 (by omega)
  replace hn849 := OwnRows.wrote hn849 hwr951 (by omega)
  replace ha850 := Own.wrote ha850 hwr951 (by omega)
  replace hB862 := Blk.wrote hB862 hwr951 (by omega)
  clear hn' ha'
  refine Sq.assign .plain rfl rfl ?_
  refine Sq.nil ?_
  refine Eq.next ?_
  refine Cq.seq ?_
  refine Cq.region ?_
  refine Sq.loadAgg agg27 .plain rfl rfl hB832 rfl ?_
  refine Sq.move .plain rfl rfl ?_
  have hcl := cntA_le (hsm32 (by omega)).2
  have hcn956 := cntA_nonneg b
  refine Sq.call fn18 .plain rfl rfl (markA_c _ w811.heap.size w816.heap.size b _ _ (1 + cntA a) hn820 ha821 hl_ha821 (hsm32 (by omega)).2 (by omega)) ?_
  rintro _ w954 ⟨rfl, hn', ha', hwr955⟩
  have hs957 := hwr955.size
  replace E := Ext.wrote E hwr955 (by omega)
  replace hB4 := Blk.wrote hB4 hwr955 (by omega)
  replace hB11 := Blk.wrote hB11 hwr955 (by omega)
  replace hB8 := Blk.wrote hB8 hwr955 (by omega)
  replace Ew := Ext.wrote Ew hwr955 (by omega)
  replace hB803 := Blk.wrote hB803 hwr955 (by omega)
  replace hB832 := Blk.wrote hB832 hwr955 (by omega)
  replace hn849 := OwnRows.wrote hn849 hwr955 (by omega)
  replace ha850 := Own.wrote ha850 hwr955 (by omega)
  replace hB862 := Blk.wrote hB862 hwr955 (by omega)
  clear hn' ha'
  refine Sq.assign .plain rfl rfl ?_
  refine Sq.nil ?_
  refine Eq.next ?_
  refine Cq.seq ?_
  refine Cq.seq ?_
  refine Cq.region ?_
  refine Sq.move .plain rfl rfl ?_
  refine Sq.lss .plain rfl rfl rfl ?_
  refine Sq.isF (by omega) ?_
  refine Sq.move .plain rfl rfl ?_
  refine Sq.loadAgg agg27 (.met rfl rfl rfl) rfl rfl hB862 rfl ?_
  refine Sq.loadAgg agg27 (.met rfl rfl rfl) rfl rfl hB8 rfl ?_
  have hd961 := hB4.lt
  have hd962 := hB11.lt
  have hd963 := hB8.lt
  have hd964 := hB803.lt
  have hd965 := hB832.lt
  have hd966 := hB862.lt
  refine Sq.call fn17 (.met rfl rfl rfl) rfl rfl (eqAut_c _ zeroA zeroA _ _ _ _ (OwnRows.rows hn849) (Own.row ha850) (hnw.ext Ew) (haw.ext Ew) (smx_zero)) ?_
  rintro _ w959 ⟨rfl, e960⟩
  have hs967 := Below.size E
  have hs968 := Below.size Ew
  have hs969 := Below.size e960
  replace E := E.trans e960
  replace hB4 := hB4.ext e960
  replace hB11 := hB11.ext e960
  replace hB8 := hB8.ext e960
  replace Ew := Ew.trans e960
  replace hB803 := hB803.ext e960
  replace hB832 := hB832.ext e960
  replace hn849 := hn849.ext e960
  replace ha850 := ha850.ext e960
  replace hB862 := hB862.ext e960
  refine Sq.beT (eqA_refl _) ?_
  refine Sq.notT (.met rfl rfl rfl) rfl rfl ?_
  refine Sq.pickF .plain rfl rfl rfl ?_
  refine Sq.move .plain rfl rfl ?_
  refine Sq.move (.met rfl rfl rfl) rfl rfl ?_
  refine Sq.move (.met rfl rfl rfl) rfl rfl ?_
  refine Sq.neqB und4 (.met rfl rfl rfl) rfl rfl rfl ?_
  refine Sq.pickF .plain rfl rfl rfl ?_
  refine Sq.nil ?_
  refine Eq.next ?_
  refine Cq.els rfl ?_
  refine Cq.skip ?_
  refine Eq.next ?_
  refine Cq.seq ?_
  refine Cq.region ?_
  refine Sq.assign .plain rfl rfl ?_
  refine Sq.nil ?_
  refine Eq.next ?_
  refine Cq.seq ?_
  refine Cq.region ?_
  refine Sq.loadAgg agg27 .plain rfl rfl hB862 rfl ?_
  refine Sq.move .plain rfl rfl ?_
  have hcl := cntA_le smx_zero
  have hcn972 := cntA_nonneg zeroA
  refine Sq.call fn18 .plain rfl rfl (markA_c _ w841.heap.size w845.heap.size zeroA _ _ 1 hn849 ha850 hl_ha850 smx_zero (by omega)) ?_
  rintro _ w970 ⟨rfl, hn', ha', hwr971⟩
  have hs973 := hwr971.size
  replace E := Ext.wrote E hwr971 (by omega)
  replace hB4 := Blk.wrote hB4 hwr971 (by omega)
  replace hB11 := Blk.wrote hB11 hwr971 (by omega)
  replace hB8 := Blk.wrote hB8 hwr971 (by omega)
  replace Ew := Ext.wrote Ew hwr971 (by omega)
  replace hB803 := Blk.wrote hB803 hwr971 (by omega)
  replace hB832 := Blk.wrote hB832 hwr971 (by omega)
  replace hB862 := Blk.wrote hB862 hwr971 (by omega)
  replace hn849 := hn'
  replace ha850 := ha'
  clear hn' ha'
  refine Sq.assign .plain rfl rfl ?_
  refine Sq.nil ?_
  refine Eq.next ?_
  refine Cq.seq ?_
  refine Cq.region ?_
  refine Sq.assign .plain rfl rfl ?_
  refine Sq.nil ?_
  refine Eq.next ?_
  refine Cq.seq ?_
  refine Cq.region ?_
  refine Sq.loadAgg agg27 .plain rfl rfl hB862 rfl ?_
  refine Sq.move .plain rfl rfl ?_
  have hd977 := hB4.lt
  have hd978 := hB11.lt
  have hd979 := hB8.lt
  have hd980 := hB803.lt
  have hd981 := hB832.lt
  have hd982 := hB862.lt
  refine Sq.call fn19 .plain rfl rfl (heldA_c _ zeroA _ _ 1 (OwnRows.rows hn849) (Own.row ha850) smx_zero (by omega)) ?_
  rintro _ w975 ⟨rfl, e976⟩
  have hs983 := Below.size E
  have hs984 := Below.size Ew
  have hs985 := Below.size e976
  replace E := E.trans e976
  replace hB4 := hB4.ext e976
  replace hB11 := hB11.ext e976
  replace hB8 := hB8.ext e976
  replace Ew := Ew.trans e976
  replace hB803 := hB803.ext e976
  replace hB832 := hB832.ext e976
  replace hn849 := hn849.ext e976
  replace ha850 := ha850.ext e976
  replace hB862 := hB862.ext e976
  refine Sq.assign .plain rfl rfl ?_
  refine Sq.nil ?_
  refine Eq.next ?_
  refine Cq.seq ?_
  refine Cq.seq ?_
  refine Cq.region ?_
  refine Sq.move .plain rfl rfl ?_
  refine Sq.lss .plain rfl rfl rfl ?_
  refine Sq.isF (by omega) ?_
  refine Sq.nil ?_
  refine Eq.next ?_
  refine Cq.els rfl ?_
  refine Cq.skip ?_
  refine Eq.next ?_
  refine Cq.seq ?_
  refine Cq.seq ?_
  refine Cq.region ?_
  refine Sq.move .plain rfl rfl ?_
  refine Sq.move .plain rfl rfl ?_
  refine Sq.neq .plain rfl rfl rfl ?_
  refine Sq.isF (by omega) ?_
  refine Sq.nil ?_
  refine Eq.next ?_
  refine Cq.els rfl ?_
  refine Cq.skip ?_
  refine Eq.next ?_
  refine Cq.seq ?_
  refine Cq.drawS 11 (fun w' => Blk w' b1 25 [Value.int .i64 a.al, nx, ac] ∧ Blk w' b8 25 [Value.int .i64 b.al, nx', ac']) mixed (⟨hB4, hB11⟩) (fun w986 e987 hS => ?_)
  clear hS
  have hs988 := Below.size e987
  replace E := E.trans e987
  replace hB4 := hB4.ext e987
  replace hB11 := hB11.ext e987
  replace hB8 := hB8.ext e987
  replace Ew := Ew.trans e987
  replace hB803 := hB803.ext e987
  replace hB832 := hB832.ext e987
  replace hn849 := hn849.ext e987
  replace ha850 := ha850.ext e987
  replace hB862 := hB862.ext e987
  refine Gq.st 0 rfl (by kernel_rfl) rfl .plain rfl (fun _ _ _ h => h) ⟨hB4, hB11⟩ (fun w' x => Still.loadAgg agg25 rfl x.1 rfl) ?_
  refine Gq.st 2 rfl (by kernel_rfl) rfl .plain rfl (fun _ _ _ h => h) ⟨hB4, hB11⟩ (fun w' x => Still.loadAgg agg25 rfl x.2 rfl) ?_
  refine Gq.st 4 rfl (by kernel_rfl) rfl .plain rfl (fun _ _ _ h => h) ⟨hB4, hB11⟩ (fun w' x => Still.move rfl) ?_
  refine Gq.two 1 9 rfl rfl (by kernel_rfl) ?_ ?_
  · have hd996 := hB4.lt
    have hd997 := hB11.lt
    have hd998 := hB8.lt
    have hd999 := hB803.lt
    have hd1000 := hB832.lt
    have hd1001 := hB862.lt
    refine Sq.call fn15 .plain rfl rfl (toA_c _ a _ _ (hnx.ext E) (hac.ext E) (hsm21 (by omega)).2) ?_
    rintro _ w990 ⟨⟨nx992, ac993, rfl, hn994, ha995⟩, e991⟩
    have hs1002 := Below.size E
    have hs1003 := Below.size Ew
    have hs1004 := Below.size e991
    replace E := E.trans e991
    replace hB4 := hB4.ext e991
    replace hB11 := hB11.ext e991
    replace hB8 := hB8.ext e991
    replace Ew := Ew.trans e991
    replace hB803 := hB803.ext e991
    replace hB832 := hB832.ext e991
    replace hn849 := hn849.ext e991
    replace ha850 := ha850.ext e991
    replace hB862 := hB862.ext e991
    have hl_ha995 := Own.low ha995
    refine Sq.nil ?_
    refine Eq.goes (fun _ => ⟨hB4, hB11⟩) ?_
    refine Gq.two 3 9 rfl rfl (by kernel_rfl) ?_ ?_
    · have hd1012 := hB4.lt
      have hd1013 := hB11.lt
      have hd1014 := hB8.lt
      have hd1015 := hB803.lt
      have hd1016 := hB832.lt
      have hd1017 := hB862.lt
      refine Sq.call fn15 .plain rfl rfl (toA_c _ b _ _ (hnx'.ext E) (hac'.ext E) (hsm32 (by omega)).2) ?_
      rintro _ w1006 ⟨⟨nx1008, ac1009, rfl, hn1010, ha1011⟩, e1007⟩
      have hs1018 := Below.size E
      have hs1019 := Below.size Ew
      have hs1020 := Below.size e1007
      replace E := E.trans e1007
      replace hB4 := hB4.ext e1007
      replace hB11 := hB11.ext e1007
      replace hB8 := hB8.ext e1007
      replace Ew := Ew.trans e1007
      replace hB803 := hB803.ext e1007
      replace hB832 := hB832.ext e1007
      replace hn849 := hn849.ext e1007
      replace ha850 := ha850.ext e1007
      replace hB862 := hB862.ext e1007
      replace hn994 := hn994.ext e1007
      replace ha995 := ha995.ext e1007
      have hl_ha1011 := Own.low ha1011
      refine Sq.nil ?_
      refine Eq.goes (fun _ => ⟨hB4, hB11⟩) ?_
      refine Gq.two 5 9 rfl rfl (by kernel_rfl) ?_ ?_
      · have hd1027 := hB4.lt
        have hd1028 := hB11.lt
        have hd1029 := hB8.lt
        have hd1030 := hB803.lt
        have hd1031 := hB832.lt
        have hd1032 := hB862.lt
        refine Sq.call fn21 .plain rfl rfl (prod_c_F _ a b _ _ _ _ (OwnRows.rows hn994) (Own.row ha995) (OwnRows.rows hn1010) (Own.row ha1011) k hC) ?_
        rintro _ w1021 ⟨⟨_, rfl, nx1023, ac1024, rfl, hn1025, ha1026⟩, e1022⟩
        have hs1033 := Below.size E
        have hs1034 := Below.size Ew
        have hs1035 := Below.size e1022
        replace E := E.trans e1022
        replace hB4 := hB4.ext e1022
        replace hB11 := hB11.ext e1022
        replace hB8 := hB8.ext e1022
        replace Ew := Ew.trans e1022
        replace hB803 := hB803.ext e1022
        replace hB832 := hB832.ext e1022
        replace hn849 := hn849.ext e1022
        replace ha850 := ha850.ext e1022
        replace hB862 := hB862.ext e1022
        have hl_ha1026 := Own.low ha1026
        refine Sq.nil ?_
        refine Eq.goes (fun _ => ⟨hB4, hB11⟩) ?_
        refine Gq.st 6 rfl (by kernel_rfl) rfl .plain rfl (fun _ _ _ h => h) ⟨hB4, hB11⟩ (fun w' x => Still.move rfl) ?_
        refine Gq.st 7 rfl (by kernel_rfl) rfl .plain rfl (fun _ _ _ h => h) ⟨hB4, hB11⟩ (fun w' x => Still.extract rfl rfl) ?_
        refine Gq.st 8 rfl (by kernel_rfl) rfl .plain rfl (fun _ _ _ h => h) ⟨hB4, hB11⟩ (fun w' x => Still.extract rfl rfl) ?_
        refine Gq.one 9 rfl (by kernel_rfl) ?_
        refine Sq.alloc zero27 .plain rfl (fun b1036 w1037 e1038 hB1039 hlo1040 => ?_)
        have hd1041 := Nat.le_trans (Below.size E) hlo1040
        have hd1042 := Nat.lt_of_lt_of_le hB4.lt hlo1040
        have hd1043 := Nat.lt_of_lt_of_le hB11.lt hlo1040
        have hd1044 := Nat.lt_of_lt_of_le hB8.lt hlo1040
        have hd1045 := Nat.le_trans (Below.size Ew) hlo1040
        have hd1046 := Nat.lt_of_lt_of_le hB803.lt hlo1040
        have hd1047 := Nat.lt_of_lt_of_le hB832.lt hlo1040
        have hd1048 := Nat.lt_of_lt_of_le hB862.lt hlo1040
        have hs1049 := Below.size e1038
        replace E := E.trans e1038
        replace hB4 := hB4.ext e1038
        replace hB11 := hB11.ext e1038
        replace hB8 := hB8.ext e1038
        replace Ew := Ew.trans e1038
        replace hB803 := hB803.ext e1038
        replace hB832 := hB832.ext e1038
        replace hn849 := hn849.ext e1038
        replace ha850 := ha850.ext e1038
        replace hB862 := hB862.ext e1038
        replace hn1025 := hn1025.ext e1038
        replace ha1026 := ha1026.ext e1038
        refine Sq.nil ?_
        refine Eq.goes (fun _ => ⟨hB4, hB11⟩) ?_
        refine Gq.one 10 rfl (by kernel_rfl) ?_
        refine Sq.storeAgg agg27 .plain rfl rfl (one_cons rfl (one_cons (Rows.one (OwnRows.rows hn1025)) (one_cons (Row.one (Own.row ha1026)) one_nil))) hB1039 rfl rfl (fun w1050 g1051 hB1052 => ?_)
        have hs1053 := World.grownBy.size g1051
        replace E := E.grown g1051 (fun k hk => by injection hk with hk; subst hk; omega)
        replace hB4 := hB4.grown g1051 (by intro h; injection h with h; omega)
        replace hB11 := hB11.grown g1051 (by intro h; injection h with h; omega)
        replace hB8 := hB8.grown g1051 (by intro h; injection h with h; omega)
        replace Ew := Ew.grown g1051 (fun k hk => by injection hk with hk; subst hk; omega)
        replace hB803 := hB803.grown g1051 (by intro h; injection h with h; omega)
        replace hB832 := hB832.grown g1051 (by intro h; injection h with h; omega)
        replace hn849 := hn849.stored g1051 hB1039 (by decide) (by decide)
        replace ha850 := ha850.stored g1051 hB1039 (by decide)
        replace hB862 := hB862.grown g1051 (by intro h; injection h with h; omega)
        replace hn1025 := hn1025.stored g1051 hB1039 (by decide) (by decide)
        replace ha1026 := ha1026.stored g1051 hB1039 (by decide)
        replace hB1039 := hB1052
        refine Sq.nil ?_
        refine Eq.goes (fun _ => ⟨hB4, hB11⟩) ?_
        refine Gq.one 11 rfl (by kernel_rfl) ?_
        refine Sq.assign .plain rfl rfl ?_
        refine Sq.nil ?_
        refine Eq.goes (fun h => absurd h (by decide)) ?_
        refine Gq.done (by kernel_rfl) ?_
        refine Eq.next ?_
        refine Cq.seq ?_
        refine Cq.seq ?_
        refine Cq.region ?_
        refine Sq.loadAgg agg27 .plain rfl rfl hB1039 rfl ?_
        refine Sq.loadAgg agg27 .plain rfl rfl hB8 rfl ?_
        have hd1057 := hB4.lt
        have hd1058 := hB11.lt
        have hd1059 := hB8.lt
        have hd1060 := hB803.lt
        have hd1061 := hB832.lt
        have hd1062 := hB862.lt
        have hd1063 := hB1039.lt
        refine Sq.call fn17 .plain rfl rfl (eqAut_c _ zeroA zeroA _ _ _ _ (OwnRows.rows hn1025) (Own.row ha1026) (hnw.ext Ew) (haw.ext Ew) (smx_zero)) ?_
        rintro _ w1055 ⟨rfl, e1056⟩
        have hs1064 := Below.size E
        have hs1065 := Below.size Ew
        have hs1066 := Below.size e1056
        replace E := E.trans e1056
        replace hB4 := hB4.ext e1056
        replace hB11 := hB11.ext e1056
        replace hB8 := hB8.ext e1056
        replace Ew := Ew.trans e1056
        replace hB803 := hB803.ext e1056
        replace hB832 := hB832.ext e1056
        replace hn849 := hn849.ext e1056
        replace ha850 := ha850.ext e1056
        replace hB862 := hB862.ext e1056
        replace hB1039 := hB1039.ext e1056
        refine Sq.beT (eqA_refl _) ?_
        refine Sq.notT .plain rfl rfl ?_
        refine Sq.move .plain rfl rfl ?_
        refine Sq.move (.met rfl rfl rfl) rfl rfl ?_
        refine Sq.move (.met rfl rfl rfl) rfl rfl ?_
        refine Sq.neqB und4 (.met rfl rfl rfl) rfl rfl rfl ?_
        refine Sq.pickF .plain rfl rfl rfl ?_
        refine Sq.nil ?_
        refine Eq.next ?_
        refine Cq.els rfl ?_
        refine Cq.skip ?_
        refine Eq.next ?_
        refine Cq.seq ?_
        refine Cq.region ?_
        refine Sq.assign .plain rfl rfl ?_
        refine Sq.nil ?_
        refine Eq.next ?_
        refine Cq.seq ?_
        refine Cq.region ?_
        refine Sq.loadAgg agg27 .plain rfl rfl hB862 rfl ?_
        refine Sq.move .plain rfl rfl ?_
        have hd1070 := hB4.lt
        have hd1071 := hB11.lt
        have hd1072 := hB8.lt
        have hd1073 := hB803.lt
        have hd1074 := hB832.lt
        have hd1075 := hB862.lt
        have hd1076 := hB1039.lt
        refine Sq.call fn19 .plain rfl rfl (heldA_c _ zeroA _ _ 1 (OwnRows.rows hn849) (Own.row ha850) smx_zero (by omega)) ?_
        rintro _ w1068 ⟨rfl, e1069⟩
        have hs1077 := Below.size E
        have hs1078 := Below.size Ew
        have hs1079 := Below.size e1069
        replace E := E.trans e1069
        refine Sq.assign .plain rfl rfl ?_
        refine Sq.nil ?_
        refine Eq.next ?_
        refine Cq.seq ?_
        refine Cq.seq ?_
        refine Cq.region ?_
        refine Sq.move .plain rfl rfl ?_
        refine Sq.lss .plain rfl rfl rfl ?_
        refine Sq.isF (by omega) ?_
        refine Sq.nil ?_
        refine Eq.next ?_
        refine Cq.els rfl ?_
        refine Cq.skip ?_
        refine Eq.next ?_
        refine Cq.seq ?_
        refine Cq.seq ?_
        refine Cq.region ?_
        refine Sq.move .plain rfl rfl ?_
        refine Sq.move .plain rfl rfl ?_
        refine Sq.neq .plain rfl rfl rfl ?_
        refine Sq.isF (by omega) ?_
        refine Sq.nil ?_
        refine Eq.next ?_
        refine Cq.els rfl ?_
        refine Cq.skip ?_
        refine Eq.next ?_
        refine Cq.seq ?_
        refine Cq.region ?_
        refine Sq.assign .plain rfl rfl ?_
        refine Sq.nil ?_
        refine Eq.next ?_
        refine Cq.ret ?_
        refine Eq.ret1 rfl rfl ?_
        exact ⟨rfl, E⟩
      refine Sq.alloc zero27 .plain rfl (fun b1080 w1081 e1082 hB1083 hlo1084 => ?_)
      have hd1085 := Nat.le_trans (Below.size E) hlo1084
      have hd1086 := Nat.lt_of_lt_of_le hB4.lt hlo1084
      have hd1087 := Nat.lt_of_lt_of_le hB11.lt hlo1084
      have hd1088 := Nat.lt_of_lt_of_le hB8.lt hlo1084
      have hd1089 := Nat.le_trans (Below.size Ew) hlo1084
      have hd1090 := Nat.lt_of_lt_of_le hB803.lt hlo1084
      have hd1091 := Nat.lt_of_lt_of_le hB832.lt hlo1084
      have hd1092 := Nat.lt_of_lt_of_le hB862.lt hlo1084
      have hs1093 := Below.size e1082
      replace E := E.trans e1082
      replace hB4 := hB4.ext e1082
      replace hB11 := hB11.ext e1082
      replace hB8 := hB8.ext e1082
      replace Ew := Ew.trans e1082
      replace hB803 := hB803.ext e1082
      replace hB832 := hB832.ext e1082
      replace hn849 := hn849.ext e1082
      replace ha850 := ha850.ext e1082
      replace hB862 := hB862.ext e1082
      replace hn994 := hn994.ext e1082
      replace ha995 := ha995.ext e1082
      replace hn1010 := hn1010.ext e1082
      replace ha1011 := ha1011.ext e1082
      refine Sq.nil ?_
      refine Eq.goes (fun _ => ⟨hB4, hB11⟩) ?_
      refine Gq.one 5 rfl (by kernel_rfl) ?_
      have hd1100 := hB4.lt
      have hd1101 := hB11.lt
      have hd1102 := hB8.lt
      have hd1103 := hB803.lt
      have hd1104 := hB832.lt
      have hd1105 := hB862.lt
      have hd1106 := hB1083.lt
      refine Sq.call fn21 .plain rfl rfl (prod_c_F _ a b _ _ _ _ (OwnRows.rows hn994) (Own.row ha995) (OwnRows.rows hn1010) (Own.row ha1011) k hC) ?_
      rintro _ w1094 ⟨⟨_, rfl, nx1096, ac1097, rfl, hn1098, ha1099⟩, e1095⟩
      have hs1107 := Below.size E
      have hs1108 := Below.size Ew
      have hs1109 := Below.size e1095
      replace E := E.trans e1095
      replace hB4 := hB4.ext e1095
      replace hB11 := hB11.ext e1095
      replace hB8 := hB8.ext e1095
      replace Ew := Ew.trans e1095
      replace hB803 := hB803.ext e1095
      replace hB832 := hB832.ext e1095
      replace hn849 := hn849.ext e1095
      replace ha850 := ha850.ext e1095
      replace hB862 := hB862.ext e1095
      replace hB1083 := hB1083.ext e1095
      have hl_ha1099 := Own.low ha1099
      refine Sq.nil ?_
      refine Eq.goes (fun _ => ⟨hB4, hB11⟩) ?_
      refine Gq.st 6 rfl (by kernel_rfl) rfl .plain rfl (fun _ _ _ h => h) ⟨hB4, hB11⟩ (fun w' x => Still.move rfl) ?_
      refine Gq.st 7 rfl (by kernel_rfl) rfl .plain rfl (fun _ _ _ h => h) ⟨hB4, hB11⟩ (fun w' x => Still.extract rfl rfl) ?_
      refine Gq.st 8 rfl (by kernel_rfl) rfl .plain rfl (fun _ _ _ h => h) ⟨hB4, hB11⟩ (fun w' x => Still.extract rfl rfl) ?_
      refine Gq.one 10 rfl (by kernel_rfl) ?_
      refine Sq.storeAgg agg27 .plain rfl rfl (one_cons rfl (one_cons (Rows.one (OwnRows.rows hn1098)) (one_cons (Row.one (Own.row ha1099)) one_nil))) hB1083 rfl rfl (fun w1110 g1111 hB1112 => ?_)
      have hs1113 := World.grownBy.size g1111
      replace E := E.grown g1111 (fun k hk => by injection hk with hk; subst hk; omega)
      replace hB4 := hB4.grown g1111 (by intro h; injection h with h; omega)
      replace hB11 := hB11.grown g1111 (by intro h; injection h with h; omega)
      replace hB8 := hB8.grown g1111 (by intro h; injection h with h; omega)
      replace Ew := Ew.grown g1111 (fun k hk => by injection hk with hk; subst hk; omega)
      replace hB803 := hB803.grown g1111 (by intro h; injection h with h; omega)
      replace hB832 := hB832.grown g1111 (by intro h; injection h with h; omega)
      replace hn849 := hn849.stored g1111 hB1083 (by decide) (by decide)
      replace ha850 := ha850.stored g1111 hB1083 (by decide)
      replace hB862 := hB862.grown g1111 (by intro h; injection h with h; omega)
      replace hn1098 := hn1098.stored g1111 hB1083 (by decide) (by decide)
      replace ha1099 := ha1099.stored g1111 hB1083 (by decide)
      replace hB1083 := hB1112
      refine Sq.nil ?_
      refine Eq.goes (fun _ => ⟨hB4, hB11⟩) ?_
      refine Gq.one 11 rfl (by kernel_rfl) ?_
      refine Sq.assign .plain rfl rfl ?_
      refine Sq.nil ?_
      refine Eq.goes (fun h => absurd h (by decide)) ?_
      refine Gq.done (by kernel_rfl) ?_
      refine Eq.next ?_
      refine Cq.seq ?_
      refine Cq.seq ?_
      refine Cq.region ?_
      refine Sq.loadAgg agg27 .plain rfl rfl hB1083 rfl ?_
      refine Sq.loadAgg agg27 .plain rfl rfl hB8 rfl ?_
      have hd1117 := hB4.lt
      have hd1118 := hB11.lt
      have hd1119 := hB8.lt
      have hd1120 := hB803.lt
      have hd1121 := hB832.lt
      have hd1122 := hB862.lt
      have hd1123 := hB1083.lt
      refine Sq.call fn17 .plain rfl rfl (eqAut_c _ zeroA zeroA _ _ _ _ (OwnRows.rows hn1098) (Own.row ha1099) (hnw.ext Ew) (haw.ext Ew) (smx_zero)) ?_
      rintro _ w1115 ⟨rfl, e1116⟩
      have hs1124 := Below.size E
      have hs1125 := Below.size Ew
      have hs1126 := Below.size e1116
      replace E := E.trans e1116
      replace hB4 := hB4.ext e1116
      replace hB11 := hB11.ext e1116
      replace hB8 := hB8.ext e1116
      replace Ew := Ew.trans e1116
      replace hB803 := hB803.ext e1116
      replace hB832 := hB832.ext e1116
      replace hn849 := hn849.ext e1116
      replace ha850 := ha850.ext e1116
      replace hB862 := hB862.ext e1116
      replace hB1083 := hB1083.ext e1116
      refine Sq.beT (eqA_refl _) ?_
      refine Sq.notT .plain rfl rfl ?_
      refine Sq.move .plain rfl rfl ?_
      refine Sq.move (.met rfl rfl rfl) rfl rfl ?_
      refine Sq.move (.met rfl rfl rfl) rfl rfl ?_
      refine Sq.neqB und4 (.met rfl rfl rfl) rfl rfl rfl ?_
      refine Sq.pickF .plain rfl rfl rfl ?_
      refine Sq.nil ?_
      refine Eq.next ?_
      refine Cq.els rfl ?_
      refine Cq.skip ?_
      refine Eq.next ?_
      refine Cq.seq ?_
      refine Cq.region ?_
      refine Sq.assign .plain rfl rfl ?_
      refine Sq.nil ?_
      refine Eq.next ?_
      refine Cq.seq ?_
      refine Cq.region ?_
      refine Sq.loadAgg agg27 .plain rfl rfl hB862 rfl ?_
      refine Sq.move .plain rfl rfl ?_
      have hd1130 := hB4.lt
      have hd1131 := hB11.lt
      have hd1132 := hB8.lt
      have hd1133 := hB803.lt
      have hd1134 := hB832.lt
      have hd1135 := hB862.lt
      have hd1136 := hB1083.lt
      refine Sq.call fn19 .plain rfl rfl (heldA_c _ zeroA _ _ 1 (OwnRows.rows hn849) (Own.row ha850) smx_zero (by omega)) ?_
      rintro _ w1128 ⟨rfl, e1129⟩
      have hs1137 := Below.size E
      have hs1138 := Below.size Ew
      have hs1139 := Below.size e1129
      replace E := E.trans e1129
      refine Sq.assign .plain rfl rfl ?_
      refine Sq.nil ?_
      refine Eq.next ?_
      refine Cq.seq ?_
      refine Cq.seq ?_
      refine Cq.region ?_
      refine Sq.move .plain rfl rfl ?_
      refine Sq.lss .plain rfl rfl rfl ?_
      refine Sq.isF (by omega) ?_
      refine Sq.nil ?_
      refine Eq.next ?_
      refine Cq.els rfl ?_
      refine Cq.skip ?_
      refine Eq.next ?_
      refine Cq.seq ?_
      refine Cq.seq ?_
      refine Cq.region ?_
      refine Sq.move .plain rfl rfl ?_
      refine Sq.move .plain rfl rfl ?_
      refine Sq.neq .plain rfl rfl rfl ?_
      refine Sq.isF (by omega) ?_
      refine Sq.nil ?_
      refine Eq.next ?_
      refine Cq.els rfl ?_
      refine Cq.skip ?_
      refine Eq.next ?_
      refine Cq.seq ?_
      refine Cq.region ?_
      refine Sq.assign .plain rfl rfl ?_
      refine Sq.nil ?_
      refine Eq.next ?_
      refine Cq.ret ?_
      refine Eq.ret1 rfl rfl ?_
      exact ⟨rfl, E⟩
    refine Sq.alloc zero27 .plain rfl (fun b1140 w1141 e1142 hB1143 hlo1144 => ?_)
    have hd1145 := Nat.le_trans (Below.size E) hlo1144
    have hd1146 := Nat.lt_of_lt_of_le hB4.lt hlo1144
    have hd1147 := Nat.lt_of_lt_of_le hB11.lt hlo1144
    have hd1148 := Nat.lt_of_lt_of_le hB8.lt hlo1144
    have hd1149 := Nat.le_trans (Below.size Ew) hlo1144
    have hd1150 := Nat.lt_of_lt_of_le hB803.lt hlo1144
    have hd1151 := Nat.lt_of_lt_of_le hB832.lt hlo1144
    have hd1152 := Nat.lt_of_lt_of_le hB862.lt hlo1144
    have hs1153 := Below.size e1142
    replace E := E.trans e1142
    replace hB4 := hB4.ext e1142
    replace hB11 := hB11.ext e1142
    replace hB8 := hB8.ext e1142
    replace Ew := Ew.trans e1142
    replace hB803 := hB803.ext e1142
    replace hB832 := hB832.ext e1142
    replace hn849 := hn849.ext e1142
    replace ha850 := ha850.ext e1142
    replace hB862 := hB862.ext e1142
    replace hn994 := hn994.ext e1142
    replace ha995 := ha995.ext e1142
    refine Sq.nil ?_
    refine Eq.goes (fun _ => ⟨hB4, hB11⟩) ?_
    refine Gq.one 3 rfl (by kernel_rfl) ?_
    have hd1161 := hB4.lt
    have hd1162 := hB11.lt
    have hd1163 := hB8.lt
    have hd1164 := hB803.lt
    have hd1165 := hB832.lt
    have hd1166 := hB862.lt
    have hd1167 := hB1143.lt
    refine Sq.call fn15 .plain rfl rfl (toA_c _ b _ _ (hnx'.ext E) (hac'.ext E) (hsm32 (by omega)).2) ?_
    rintro _ w1155 ⟨⟨nx1157, ac1158, rfl, hn1159, ha1160⟩, e1156⟩
    have hs1168 := Below.size E
    have hs1169 := Below.size Ew
    have hs1170 := Below.size e1156
    replace E := E.trans e1156
    replace hB4 := hB4.ext e1156
    replace hB11 := hB11.ext e1156
    replace hB8 := hB8.ext e1156
    replace Ew := Ew.trans e1156
    replace hB803 := hB803.ext e1156
    replace hB832 := hB832.ext e1156
    replace hn849 := hn849.ext e1156
    replace ha850 := ha850.ext e1156
    replace hB862 := hB862.ext e1156
    replace hn994 := hn994.ext e1156
    replace ha995 := ha995.ext e1156
    replace hB1143 := hB1143.ext e1156
    have hl_ha1160 := Own.low ha1160
    refine Sq.nil ?_
    refine Eq.goes (fun _ => ⟨hB4, hB11⟩) ?_
    refine Gq.one 5 rfl (by kernel_rfl) ?_
    have hd1177 := hB4.lt
    have hd1178 := hB11.lt
    have hd1179 := hB8.lt
    have hd1180 := hB803.lt
    have hd1181 := hB832.lt
    have hd1182 := hB862.lt
    have hd1183 := hB1143.lt
    refine Sq.call fn21 .plain rfl rfl (prod_c_F _ a b _ _ _ _ (OwnRows.rows hn994) (Own.row ha995) (OwnRows.rows hn1159) (Own.row ha1160) k hC) ?_
    rintro _ w1171 ⟨⟨_, rfl, nx1173, ac1174, rfl, hn1175, ha1176⟩, e1172⟩
    have hs1184 := Below.size E
    have hs1185 := Below.size Ew
    have hs1186 := Below.size e1172
    replace E := E.trans e1172
    replace hB4 := hB4.ext e1172
    replace hB11 := hB11.ext e1172
    replace hB8 := hB8.ext e1172
    replace Ew := Ew.trans e1172
    replace hB803 := hB803.ext e1172
    replace hB832 := hB832.ext e1172
    replace hn849 := hn849.ext e1172
    replace ha850 := ha850.ext e1172
    replace hB862 := hB862.ext e1172
    replace hB1143 := hB1143.ext e1172
    have hl_ha1176 := Own.low ha1176
    refine Sq.nil ?_
    refine Eq.goes (fun _ => ⟨hB4, hB11⟩) ?_
    refine Gq.st 6 rfl (by kernel_rfl) rfl .plain rfl (fun _ _ _ h => h) ⟨hB4, hB11⟩ (fun w' x => Still.move rfl) ?_
    refine Gq.st 7 rfl (by kernel_rfl) rfl .plain rfl (fun _ _ _ h => h) ⟨hB4, hB11⟩ (fun w' x => Still.extract rfl rfl) ?_
    refine Gq.st 8 rfl (by kernel_rfl) rfl .plain rfl (fun _ _ _ h => h) ⟨hB4, hB11⟩ (fun w' x => Still.extract rfl rfl) ?_
    refine Gq.one 10 rfl (by kernel_rfl) ?_
    refine Sq.storeAgg agg27 .plain rfl rfl (one_cons rfl (one_cons (Rows.one (OwnRows.rows hn1175)) (one_cons (Row.one (Own.row ha1176)) one_nil))) hB1143 rfl rfl (fun w1187 g1188 hB1189 => ?_)
    have hs1190 := World.grownBy.size g1188
    replace E := E.grown g1188 (fun k hk => by injection hk with hk; subst hk; omega)
    replace hB4 := hB4.grown g1188 (by intro h; injection h with h; omega)
    replace hB11 := hB11.grown g1188 (by intro h; injection h with h; omega)
    replace hB8 := hB8.grown g1188 (by intro h; injection h with h; omega)
    replace Ew := Ew.grown g1188 (fun k hk => by injection hk with hk; subst hk; omega)
    replace hB803 := hB803.grown g1188 (by intro h; injection h with h; omega)
    replace hB832 := hB832.grown g1188 (by intro h; injection h with h; omega)
    replace hn849 := hn849.stored g1188 hB1143 (by decide) (by decide)
    replace ha850 := ha850.stored g1188 hB1143 (by decide)
    replace hB862 := hB862.grown g1188 (by intro h; injection h with h; omega)
    replace hn1175 := hn1175.stored g1188 hB1143 (by decide) (by decide)
    replace ha1176 := ha1176.stored g1188 hB1143 (by decide)
    replace hB1143 := hB1189
    refine Sq.nil ?_
    refine Eq.goes (fun _ => ⟨hB4, hB11⟩) ?_
    refine Gq.one 11 rfl (by kernel_rfl) ?_
    refine Sq.assign .plain rfl rfl ?_
    refine Sq.nil ?_
    refine Eq.goes (fun h => absurd h (by decide)) ?_
    refine Gq.done (by kernel_rfl) ?_
    refine Eq.next ?_
    refine Cq.seq ?_
    refine Cq.seq ?_
    refine Cq.region ?_
    refine Sq.loadAgg agg27 .plain rfl rfl hB1143 rfl ?_
    refine Sq.loadAgg agg27 .plain rfl rfl hB8 rfl ?_
    have hd1194 := hB4.lt
    have hd1195 := hB11.lt
    have hd1196 := hB8.lt
    have hd1197 := hB803.lt
    have hd1198 := hB832.lt
    have hd1199 := hB862.lt
    have hd1200 := hB1143.lt
    refine Sq.call fn17 .plain rfl rfl (eqAut_c _ zeroA zeroA _ _ _ _ (OwnRows.rows hn1175) (Own.row ha1176) (hnw.ext Ew) (haw.ext Ew) (smx_zero)) ?_
    rintro _ w1192 ⟨rfl, e1193⟩
    have hs1201 := Below.size E
    have hs1202 := Below.size Ew
    have hs1203 := Below.size e1193
    replace E := E.trans e1193
    replace hB4 := hB4.ext e1193
    replace hB11 := hB11.ext e1193
    replace hB8 := hB8.ext e1193
    replace Ew := Ew.trans e1193
    replace hB803 := hB803.ext e1193
    replace hB832 := hB832.ext e1193
    replace hn849 := hn849.ext e1193
    replace ha850 := ha850.ext e1193
    replace hB862 := hB862.ext e1193
    replace hB1143 := hB1143.ext e1193
    refine Sq.beT (eqA_refl _) ?_
    refine Sq.notT .plain rfl rfl ?_
    refine Sq.move .plain rfl rfl ?_
    refine Sq.move (.met rfl rfl rfl) rfl rfl ?_
    refine Sq.move (.met rfl rfl rfl) rfl rfl ?_
    refine Sq.neqB und4 (.met rfl rfl rfl) rfl rfl rfl ?_
    refine Sq.pickF .plain rfl rfl rfl ?_
    refine Sq.nil ?_
    refine Eq.next ?_
    refine Cq.els rfl ?_
    refine Cq.skip ?_
    refine Eq.next ?_
    refine Cq.seq ?_
    refine Cq.region ?_
    refine Sq.assign .plain rfl rfl ?_
    refine Sq.nil ?_
    refine Eq.next ?_
    refine Cq.seq ?_
    refine Cq.region ?_
    refine Sq.loadAgg agg27 .plain rfl rfl hB862 rfl ?_
    refine Sq.move .plain rfl rfl ?_
    have hd1207 := hB4.lt
    have hd1208 := hB11.lt
    have hd1209 := hB8.lt
    have hd1210 := hB803.lt
    have hd1211 := hB832.lt
    have hd1212 := hB862.lt
    have hd1213 := hB1143.lt
    refine Sq.call fn19 .plain rfl rfl (heldA_c _ zeroA _ _ 1 (OwnRows.rows hn849) (Own.row ha850) smx_zero (by omega)) ?_
    rintro _ w1205 ⟨rfl, e1206⟩
    have hs1214 := Below.size E
    have hs1215 := Below.size Ew
    have hs1216 := Below.size e1206
    replace E := E.trans e1206
    refine Sq.assign .plain rfl rfl ?_
    refine Sq.nil ?_
    refine Eq.next ?_
    refine Cq.seq ?_
    refine Cq.seq ?_
    refine Cq.region ?_
    refine Sq.move .plain rfl rfl ?_
    refine Sq.lss .plain rfl rfl rfl ?_
    refine Sq.isF (by omega) ?_
    refine Sq.nil ?_
    refine Eq.next ?_
    refine Cq.els rfl ?_
    refine Cq.skip ?_
    refine Eq.next ?_
    refine Cq.seq ?_
    refine Cq.seq ?_
    refine Cq.region ?_
    refine Sq.move .plain rfl rfl ?_
    refine Sq.move .plain rfl rfl ?_
    refine Sq.neq .plain rfl rfl rfl ?_
    refine Sq.isF (by omega) ?_
    refine Sq.nil ?_
    refine Eq.next ?_
    refine Cq.els rfl ?_
    refine Cq.skip ?_
    refine Eq.next ?_
    refine Cq.seq ?_
    refine Cq.region ?_
    refine Sq.assign .plain rfl rfl ?_
    refine Sq.nil ?_
    refine Eq.next ?_
    refine Cq.ret ?_
    refine Eq.ret1 rfl rfl ?_
    exact ⟨rfl, E⟩
  refine Sq.alloc zero27 .plain rfl (fun b1217 w1218 e1219 hB1220 hlo1221 => ?_)
  have hd1222 := Nat.le_trans (Below.size E) hlo1221
  have hd1223 := Nat.lt_of_lt_of_le hB4.lt hlo1221
  have hd1224 := Nat.lt_of_lt_of_le hB11.lt hlo1221
  have hd1225 := Nat.lt_of_lt_of_le hB8.lt hlo1221
  have hd1226 := Nat.le_trans (Below.size Ew) hlo1221
  have hd1227 := Nat.lt_of_lt_of_le hB803.lt hlo1221
  have hd1228 := Nat.lt_of_lt_of_le hB832.lt hlo1221
  have hd1229 := Nat.lt_of_lt_of_le hB862.lt hlo1221
  have hs1230 := Below.size e1219
  replace E := E.trans e1219
  replace hB4 := hB4.ext e1219
  replace hB11 := hB11.ext e1219
  replace hB8 := hB8.ext e1219
  replace Ew := Ew.trans e1219
  replace hB803 := hB803.ext e1219
  replace hB832 := hB832.ext e1219
  replace hn849 := hn849.ext e1219
  replace ha850 := ha850.ext e1219
  replace hB862 := hB862.ext e1219
  refine Sq.nil ?_
  refine Eq.goes (fun _ => ⟨hB4, hB11⟩) ?_
  refine Gq.one 1 rfl (by kernel_rfl) ?_
  have hd1238 := hB4.lt
  have hd1239 := hB11.lt
  have hd1240 := hB8.lt
  have hd1241 := hB803.lt
  have hd1242 := hB832.lt
  have hd1243 := hB862.lt
  have hd1244 := hB1220.lt
  refine Sq.call fn15 .plain rfl rfl (toA_c _ a _ _ (hnx.ext E) (hac.ext E) (hsm21 (by omega)).2) ?_
  rintro _ w1232 ⟨⟨nx1234, ac1235, rfl, hn1236, ha1237⟩, e1233⟩
  have hs1245 := Below.size E
  have hs1246 := Below.size Ew
  have hs1247 := Below.size e1233
  replace E := E.trans e1233
  replace hB4 := hB4.ext e1233
  replace hB11 := hB11.ext e1233
  replace hB8 := hB8.ext e1233
  replace Ew := Ew.trans e1233
  replace hB803 := hB803.ext e1233
  replace hB832 := hB832.ext e1233
  replace hn849 := hn849.ext e1233
  replace ha850 := ha850.ext e1233
  replace hB862 := hB862.ext e1233
  replace hB1220 := hB1220.ext e1233
  have hl_ha1237 := Own.low ha1237
  refine Sq.nil ?_
  refine Eq.goes (fun _ => ⟨hB4, hB11⟩) ?_
  refine Gq.one 3 rfl (by kernel_rfl) ?_
  have hd1255 := hB4.lt
  have hd1256 := hB11.lt
  have hd1257 := hB8.lt
  have hd1258 := hB803.lt
  have hd1259 := hB832.lt
  have hd1260 := hB862.lt
  have hd1261 := hB1220.lt
  refine Sq.call fn15 .plain rfl rfl (toA_c _ b _ _ (hnx'.ext E) (hac'.ext E) (hsm32 (by omega)).2) ?_
  rintro _ w1249 ⟨⟨nx1251, ac1252, rfl, hn1253, ha1254⟩, e1250⟩
  have hs1262 := Below.size E
  have hs1263 := Below.size Ew
  have hs1264 := Below.size e1250
  replace E := E.trans e1250
  replace hB4 := hB4.ext e1250
  replace hB11 := hB11.ext e1250
  replace hB8 := hB8.ext e1250
  replace Ew := Ew.trans e1250
  replace hB803 := hB803.ext e1250
  replace hB832 := hB832.ext e1250
  replace hn849 := hn849.ext e1250
  replace ha850 := ha850.ext e1250
  replace hB862 := hB862.ext e1250
  replace hB1220 := hB1220.ext e1250
  replace hn1236 := hn1236.ext e1250
  replace ha1237 := ha1237.ext e1250
  have hl_ha1254 := Own.low ha1254
  refine Sq.nil ?_
  refine Eq.goes (fun _ => ⟨hB4, hB11⟩) ?_
  refine Gq.one 5 rfl (by kernel_rfl) ?_
  have hd1271 := hB4.lt
  have hd1272 := hB11.lt
  have hd1273 := hB8.lt
  have hd1274 := hB803.lt
  have hd1275 := hB832.lt
  have hd1276 := hB862.lt
  have hd1277 := hB1220.lt
  refine Sq.call fn21 .plain rfl rfl (prod_c_F _ a b _ _ _ _ (OwnRows.rows hn1236) (Own.row ha1237) (OwnRows.rows hn1253) (Own.row ha1254) k hC) ?_
  rintro _ w1265 ⟨⟨_, rfl, nx1267, ac1268, rfl, hn1269, ha1270⟩, e1266⟩
  have hs1278 := Below.size E
  have hs1279 := Below.size Ew
  have hs1280 := Below.size e1266
  replace E := E.trans e1266
  replace hB4 := hB4.ext e1266
  replace hB11 := hB11.ext e1266
  replace hB8 := hB8.ext e1266
  replace Ew := Ew.trans e1266
  replace hB803 := hB803.ext e1266
  replace hB832 := hB832.ext e1266
  replace hn849 := hn849.ext e1266
  replace ha850 := ha850.ext e1266
  replace hB862 := hB862.ext e1266
  replace hB1220 := hB1220.ext e1266
  have hl_ha1270 := Own.low ha1270
  refine Sq.nil ?_
  refine Eq.goes (fun _ => ⟨hB4, hB11⟩) ?_
  refine Gq.st 6 rfl (by kernel_rfl) rfl .plain rfl (fun _ _ _ h => h) ⟨hB4, hB11⟩ (fun w' x => Still.move rfl) ?_
  refine Gq.st 7 rfl (by kernel_rfl) rfl .plain rfl (fun _ _ _ h => h) ⟨hB4, hB11⟩ (fun w' x => Still.extract rfl rfl) ?_
  refine Gq.st 8 rfl (by kernel_rfl) rfl .plain rfl (fun _ _ _ h => h) ⟨hB4, hB11⟩ (fun w' x => Still.extract rfl rfl) ?_
  refine Gq.one 10 rfl (by kernel_rfl) ?_
  refine Sq.storeAgg agg27 .plain rfl rfl (one_cons rfl (one_cons (Rows.one (OwnRows.rows hn1269)) (one_cons (Row.one (Own.row ha1270)) one_nil))) hB1220 rfl rfl (fun w1281 g1282 hB1283 => ?_)
  have hs1284 := World.grownBy.size g1282
  replace E := E.grown g1282 (fun k hk => by injection hk with hk; subst hk; omega)
  replace hB4 := hB4.grown g1282 (by intro h; injection h with h; omega)
  replace hB11 := hB11.grown g1282 (by intro h; injection h with h; omega)
  replace hB8 := hB8.grown g1282 (by intro h; injection h with h; omega)
  replace Ew := Ew.grown g1282 (fun k hk => by injection hk with hk; subst hk; omega)
  replace hB803 := hB803.grown g1282 (by intro h; injection h with h; omega)
  replace hB832 := hB832.grown g1282 (by intro h; injection h with h; omega)
  replace hn849 := hn849.stored g1282 hB1220 (by decide) (by decide)
  replace ha850 := ha850.stored g1282 hB1220 (by decide)
  replace hB862 := hB862.grown g1282 (by intro h; injection h with h; omega)
  replace hn1269 := hn1269.stored g1282 hB1220 (by decide) (by decide)
  replace ha1270 := ha1270.stored g1282 hB1220 (by decide)
  replace hB1220 := hB1283
  refine Sq.nil ?_
  refine Eq.goes (fun _ => ⟨hB4, hB11⟩) ?_
  refine Gq.one 11 rfl (by kernel_rfl) ?_
  refine Sq.assign .plain rfl rfl ?_
  refine Sq.nil ?_
  refine Eq.goes (fun h => absurd h (by decide)) ?_
  refine Gq.done (by kernel_rfl) ?_
  refine Eq.next ?_
  refine Cq.seq ?_
  refine Cq.seq ?_
  refine Cq.region ?_
  refine Sq.loadAgg agg27 .plain rfl rfl hB1220 rfl ?_
  refine Sq.loadAgg agg27 .plain rfl rfl hB8 rfl ?_
  have hd1288 := hB4.lt
  have hd1289 := hB11.lt
  have hd1290 := hB8.lt
  have hd1291 := hB803.lt
  have hd1292 := hB832.lt
  have hd1293 := hB862.lt
  have hd1294 := hB1220.lt
  refine Sq.call fn17 .plain rfl rfl (eqAut_c _ zeroA zeroA _ _ _ _ (OwnRows.rows hn1269) (Own.row ha1270) (hnw.ext Ew) (haw.ext Ew) (smx_zero)) ?_
  rintro _ w1286 ⟨rfl, e1287⟩
  have hs1295 := Below.size E
  have hs1296 := Below.size Ew
  have hs1297 := Below.size e1287
  replace E := E.trans e1287
  replace hB4 := hB4.ext e1287
  replace hB11 := hB11.ext e1287
  replace hB8 := hB8.ext e1287
  replace Ew := Ew.trans e1287
  replace hB803 := hB803.ext e1287
  replace hB832 := hB832.ext e1287
  replace hn849 := hn849.ext e1287
  replace ha850 := ha850.ext e1287
  replace hB862 := hB862.ext e1287
  replace hB1220 := hB1220.ext e1287
  refine Sq.beT (eqA_refl _) ?_
  refine Sq.notT .plain rfl rfl ?_
  refine Sq.move .plain rfl rfl ?_
  refine Sq.move (.met rfl rfl rfl) rfl rfl ?_
  refine Sq.move (.met rfl rfl rfl) rfl rfl ?_
  refine Sq.neqB und4 (.met rfl rfl rfl) rfl rfl rfl ?_
  refine Sq.pickF .plain rfl rfl rfl ?_
  refine Sq.nil ?_
  refine Eq.next ?_
  refine Cq.els rfl ?_
  refine Cq.skip ?_
  refine Eq.next ?_
  refine Cq.seq ?_
  refine Cq.region ?_
  refine Sq.assign .plain rfl rfl ?_
  refine Sq.nil ?_
  refine Eq.next ?_
  refine Cq.seq ?_
  refine Cq.region ?_
  refine Sq.loadAgg agg27 .plain rfl rfl hB862 rfl ?_
  refine Sq.move .plain rfl rfl ?_
  have hd1301 := hB4.lt
  have hd1302 := hB11.lt
  have hd1303 := hB8.lt
  have hd1304 := hB803.lt
  have hd1305 := hB832.lt
  have hd1306 := hB862.lt
  have hd1307 := hB1220.lt
  refine Sq.call fn19 .plain rfl rfl (heldA_c _ zeroA _ _ 1 (OwnRows.rows hn849) (Own.row ha850) smx_zero (by omega)) ?_
  rintro _ w1299 ⟨rfl, e1300⟩
  have hs1308 := Below.size E
  have hs1309 := Below.size Ew
  have hs1310 := Below.size e1300
  replace E := E.trans e1300
  refine Sq.assign .plain rfl rfl ?_
  refine Sq.nil ?_
  refine Eq.next ?_
  refine Cq.seq ?_
  refine Cq.seq ?_
  refine Cq.region ?_
  refine Sq.move .plain rfl rfl ?_
  refine Sq.lss .plain rfl rfl rfl ?_
  refine Sq.isF (by omega) ?_
  refine Sq.nil ?_
  refine Eq.next ?_
  refine Cq.els rfl ?_
  refine Cq.skip ?_
  refine Eq.next ?_
  refine Cq.seq ?_
  refine Cq.seq ?_
  refine Cq.region ?_
  refine Sq.move .plain rfl rfl ?_
  refine Sq.move .plain rfl rfl ?_
  refine Sq.neq .plain rfl rfl rfl ?_
  refine Sq.isF (by omega) ?_
  refine Sq.nil ?_
  refine Eq.next ?_
  refine Cq.els rfl ?_
  refine Cq.skip ?_
  refine Eq.next ?_
  refine Cq.seq ?_
  refine Cq.region ?_
  refine Sq.assign .plain rfl rfl ?_
  refine Sq.nil ?_
  refine Eq.next ?_
  refine Cq.ret ?_
  refine Eq.ret1 rfl rfl ?_
  exact ⟨rfl, E⟩
end Go.Proofs.Ytdkdpmmfebdeaaa
set_option linter.unusedSimpArgs false
set_option linter.unusedVariables false
namespace Go.Proofs.Ytdkdpmmfebdeaaa
def IsFirst (L : List Int) (G : List Int → Bool) : Option (List Int) → Prop
  | some w => (∀ x ∈ w, x ∈ L) ∧ G w = true ∧ ∀ v : List Int, (∀ x ∈ v, x ∈ L) → G v = true → sle w v
  | none => ∀ v : List Int, (∀ x ∈ v, x ∈ L) → G v = false
theorem IsFirst.uniq {L : List Int} {G G' : List Int → Bool} {o o' : Option (List Int)} (h : IsFirst L G o) (h' : IsFirst L G' o') (hg : ∀ v : List Int, (∀ x ∈ v, x ∈ L) → G v = G' v) : o = o' := by
  cases o with
  | none =>
    cases o' with
    | none => rfl
    | some w =>
      have := h w h'.1
      rw [hg w h'.1, h'.2.1] at this
      cases this
  | some w =>
    cases o' with
    | none =>
      have := h' w h.1
      rw [← hg w h.1, h.2.1] at this
      cases this
    | some w' =>
      have h1 := h.2.2 w' h'.1 (by rw [hg w' h'.1]; exact h'.2.1)
      have h2 := h'.2.2 w h.1 (by rw [← hg w h.1]; exact h.2.1)
      rw [sle_antisymm h1 h2]
theorem IsFirst.isSome {L : List Int} {G : List Int → Bool} {o : Option (List Int)} (h : IsFirst L G o) : o.isSome = true ↔ ∃ v : List Int, (∀ x ∈ v, x ∈ L) ∧ G v = true := by
  cases o with
  | none => exact ⟨fun h' => (by cases h'), fun ⟨v, hv, hg⟩ => by rw [h v hv] at hg; cases hg⟩
  | some w => exact ⟨fun _ => ⟨w, h.1, h.2.1⟩, fun _ => rfl⟩
theorem IsFirst.isNone {L : List Int} {G : List Int → Bool} {o : Option (List Int)} (h : IsFirst L G o) : o.isSome = false ↔ ∀ v : List Int, (∀ x ∈ v, x ∈ L) → G v = false := by
  cases o with
  | none => exact ⟨fun _ => h, fun _ => rfl⟩
  | some w => exact ⟨fun h' => (by cases h'), fun h' => by have := h' w h.1; rw [h.2.1] at this; cases this⟩
theorem over_six {al : Int} {w : List Int} (h : ∀ x ∈ w, x ∈ letters al) : ∀ x ∈ w, 0 ≤ x ∧ x < 6 := fun x hx => ⟨(mem_letters (h x hx)).1, (mem_letters (h x hx)).2.1⟩
section
variable {a b : A}
theorem node2 : ∀ (w : List Int) (p : Int × Int), nodeOf (step2 a b) p w = (run a p.1 w, run b p.2 w)
  | [], p => rfl
  | x :: w, p => node2 w (step2 a b p x)
theorem ord1_le (hv : validA a = true) {s : Int} (hs : 0 ≤ s ∧ s < a.next.length) : (ord (goA a) s (letters a.al)).length ≤ a.next.length := by
  have h := bfsw_range (f := goA a) (s := s) (L := letters a.al) (n := a.next.length) (D := fun q => 0 ≤ q ∧ q < (a.next.length : Int)) hs (fun q hq x hx => goA_in hv hq ⟨(mem_letters hx).1, (mem_letters hx).2.1⟩) (fun q hq => hq) (many 0)
  rw [bfsw_length] at h
  exact h
theorem ord2_le (hv : validA a = true) (hv' : validA b = true) {p : Int × Int} (hp : In2 a b p) {al : Int} : (ord (step2 a b) p (letters al)).length ≤ a.next.length * b.next.length := by
  have h := bfsw_range (f := fP a b) (s := enc2 b p) (L := letters al) (n := a.next.length * b.next.length) (D := InP a b) (inP_enc hp) (fun q hq x hx => fP_in hv hv' hq ⟨(mem_letters hx).1, (mem_letters hx).2.1⟩) (fun q hq => hq) (many 0)
  rw [bfsw_map' (P := In2 a b) enc_inj hp (fun q hq l hl => in2 hv hv' hq ⟨(mem_letters hl).1, (mem_letters hl).2.1⟩) (fun q hq l _ => fP_enc hq l), bfsw_length] at h
  exact h
theorem isFirst_A (hv : validA a = true) {s : Int} (hs : 0 ≤ s ∧ s < a.next.length) (G : Int → Bool) : IsFirst (letters a.al) (fun w => G (run a s w)) (firstA a s G) := by
  have hl : (ord (goA a) s (letters a.al)).length ≤ 200 := by have := ord1_le hv hs; have := (validA_spec.1 hv).2.1; omega
  unfold firstA
  cases h : firstOf (goA a) s (letters a.al) G with
  | none => exact first_none (letters_sorted _) hl h
  | some w =>
    have := first_some (letters_sorted _) hl h
    exact ⟨ordw_over (letters_sorted _) this.1, this.2.1, this.2.2⟩
theorem isFirst_AB (hv : validA a = true) (hv' : validA b = true) {p : Int × Int} (hp : In2 a b p) (g : Bool → Bool → Bool) : IsFirst (letters a.al) (fun w => g (accA a (run a p.1 w)) (accA b (run b p.2 w))) (firstAB a b p g) := by
  have hl : (ord (step2 a b) p (letters a.al)).length ≤ 200 := by have := ord2_le hv hv' hp (al := a.al); have := le144 hv hv'; omega
  unfold firstAB
  cases h : firstOf (step2 a b) p (letters a.al) (fun p => g (accA a p.1) (accA b p.2)) with
  | none =>
    intro v hv
    have := first_none (letters_sorted _) hl h v hv
    rw [node2] at this
    exact this
  | some w =>
    have h1 := first_some (letters_sorted _) hl h
    rw [node2] at h1
    refine ⟨ordw_over (letters_sorted _) h1.1, h1.2.1, fun v hv hg => h1.2.2 v hv ?_⟩
    rw [node2]
    exact hg
theorem firstA_short (hv : validA a = true) {s : Int} (hs : 0 ≤ s ∧ s < a.next.length) {G : Int → Bool} {w : List Int} (h : firstA a s G = some w) : w.length + 1 ≤ a.next.length := by
  have hl : (ord (goA a) s (letters a.al)).length ≤ 200 := by have := ord1_le hv hs; have := (validA_spec.1 hv).2.1; omega
  have h1 := first_some (letters_sorted _) hl h
  exact Nat.le_trans (ordw_short (letters_sorted _) h1.1) (ord1_le hv hs)
theorem run_in2 (hv : validA a = true) {w : List Int} (hw : ∀ x ∈ w, 0 ≤ x ∧ x < 6) : 0 ≤ run a 0 w ∧ run a 0 w < a.next.length := run_stay hv hw (zero_in hv)
theorem isFirst_two (hC : cmp2 a b = true) (g : Bool → Bool → Bool) : IsFirst (letters a.al) (fun w => g (accA a (run a 0 w)) (accA b (run b 0 w))) (fTwo a b g) := by
  have h := cmp2_spec.1 hC
  rw [fTwo, if_pos hC]
  exact isFirst_AB h.1 h.2.1 (in_zero h.1 h.2.1) g
end
end Go.Proofs.Ytdkdpmmfebdeaaa
set_option linter.unusedSimpArgs false
set_option linter.unusedVariables false
namespace Go.Proofs.Ytdkdpmmfebdeaaa
section
variable {a b : A}
theorem at_first (hv : validA a = true) (q : Int) : IsFirst (letters a.al) (fun w => decide (run a 0 w = q)) (fAt a q) := by
  rw [fAt, if_pos hv]
  exact isFirst_A hv (zero_in hv) (fun x => decide (x = q))
theorem at_word {q : Int} {w : List Int} (hv : validA a = true) (h : fAt a q = some w) : (∀ x ∈ w, x ∈ letters a.al) ∧ run a 0 w = q ∧ w.length + 1 ≤ a.next.length := by
  have h1 := at_first hv q
  rw [h] at h1
  have h2 := h
  rw [fAt, if_pos hv] at h2
  exact ⟨h1.1, of_decide_eq_true h1.2.1, firstA_short hv (zero_in hv) h2⟩
theorem small_word {w : List Int} (hv : validA a = true) (h : w.length + 1 ≤ a.next.length) : w.length ≤ 50000 := by have := (validA_spec.1 hv).2.1; omega
theorem at_self {w : List Int} (hv : validA a = true) (h : w ∈ ordw (goA a) 0 (letters a.al)) : fAt a (run a 0 w) = some w := by
  have hl : (ord (goA a) 0 (letters a.al)).length ≤ 200 := by have := ord1_le hv (zero_in hv); have := (validA_spec.1 hv).2.1; omega
  rw [fAt, if_pos hv]
  exact first_self (letters_sorted _) hl h
end
section
open Classical
variable {α : Type} {f : α → Int → α} {L : List Int} {G : α → Bool} {U : List α}
def Alike (f : α → Int → α) (L : List Int) (G : α → Bool) (k : Nat) (x y : α) : Prop := ∀ w : List Int, w.length < k → (∀ l ∈ w, l ∈ L) → G (nodeOf f x w) = G (nodeOf f y w)
theorem Alike.refl (k : Nat) (x : α) : Alike f L G k x x := fun _ _ _ => rfl
theorem Alike.symm {k : Nat} {x y : α} (h : Alike f L G k x y) : Alike f L G k y x := fun w h1 h2 => (h w h1 h2).symm
theorem Alike.trans {k : Nat} {x y z : α} (h : Alike f L G k x y) (h' : Alike f L G k y z) : Alike f L G k x z := fun w h1 h2 => (h w h1 h2).trans (h' w h1 h2)
end
section
variable {a b : A}
end
end Go.Proofs.Ytdkdpmmfebdeaaa
set_option linter.unusedSimpArgs false
set_option linter.unusedVariables false
namespace Go.Proofs.Ytdkdpmmfebdeaaa
def accW (a : A) (w : List Int) : Bool := accA a (run a 0 w)
section
variable {a b : A}
theorem within_iff (hC : cmp2 a b = true) : withinL a b = true ↔ ∀ v : List Int, (∀ x ∈ v, x ∈ letters a.al) → accW a v = true → accW b v = true := by
  have h := (isFirst_two hC (fun x y => x && !y)).isNone
  rw [withinL, hC, Bool.true_and, Bool.not_eq_true']
  unfold fOut
  rw [h]
  constructor
  · intro hh v hv ha
    have := hh v hv
    revert this
    rw [show accA a (run a 0 v) = true from ha]
    show (true && !accW b v) = false → _
    cases accW b v <;> simp
  · intro hh v hv
    have := hh v hv
    revert this
    show (accW a v = true → accW b v = true) → (accW a v && !accW b v) = false
    cases accW a v <;> cases accW b v <;> simp
theorem accW_safe (hv : validA a = true) {v : List Int} (h : ∀ x ∈ v, 0 ≤ x ∧ x < 6) : accW (safe a) v = true ↔ ∀ k ≤ v.length, accW a (v.take k) = true := run_safe hv v 0 h (zero_in hv)
theorem row_map (hv : validA a = true) {q : Int} (hq : 0 ≤ q ∧ q < a.next.length) : a.next.getD q.toNat [] = (letters a.al).map (goA a q) := by
  rw [← extRow_same hv (q := q.toNat) (by omega)]
  unfold extRow
  rw [Int.toNat_of_nonneg hq.1]
def isPC (a : A) : Bool := validA a && withinL a (safe a)
theorem cmp2_safe2 (hv : validA a = true) : cmp2 a (safe a) = true := cmp2_spec.2 ⟨hv, safe_valid hv, rfl⟩
theorem isPC_iff (hv : validA a = true) : isPC a = true ↔ ∀ v : List Int, (∀ x ∈ v, x ∈ letters a.al) → accW a v = true → ∀ k ≤ v.length, accW a (v.take k) = true := by
  rw [isPC, hv, Bool.true_and, within_iff (cmp2_safe2 hv)]
  exact ⟨fun h v hx ha => (accW_safe hv (over_six hx)).1 (h v hx ha), fun h v hx ha => (accW_safe hv (over_six hx)).2 (h v hx ha)⟩
theorem isPC_no (h : validA a = false) : isPC a = false := by rw [isPC, h]; rfl
theorem accW_num {α : Type} [DecidableEq α] {al : Int} {f : α → Int → α} {s : α} {acc : α → Bool} (hal : 0 ≤ al ∧ al ≤ 63) (h : (ord f s (letters al)).length ≤ 200) {w : List Int} (hw : ∀ x ∈ w, x ∈ letters al) : accW (num al f s acc) w = acc (nodeOf f s w) := by
  have h1 := run_num (acc := acc) hal h w (q := s) ord_mem0 hw
  rw [ord_zero' h] at h1
  unfold accW accA
  rw [show ((0 : Nat) : Int) = 0 from rfl] at h1
  rw [h1.1]
  exact acc_num h1.2
theorem ord200 (hv : validA a = true) : (ord (goA a) 0 (letters a.al)).length ≤ 200 := by have := trim_len hv; have := (validA_spec.1 hv).2.1; omega
theorem accW_trim (hv : validA a = true) {v : List Int} (hx : ∀ x ∈ v, x ∈ letters a.al) : accW (trim a) v = accW a v := accW_num (validA_spec.1 hv).1 (ord200 hv) hx
theorem run_trim (hv : validA a = true) {v : List Int} (hx : ∀ x ∈ v, x ∈ letters a.al) : run (trim a) 0 v = ((ord (goA a) 0 (letters a.al)).idxOf (run a 0 v) : Int) ∧ run a 0 v ∈ ord (goA a) 0 (letters a.al) := by
  have h1 := run_num (acc := accA a) (validA_spec.1 hv).1 (ord200 hv) v (q := 0) ord_mem0 hx
  rw [ord_zero' (ord200 hv)] at h1
  exact h1
theorem trim_at (hv : validA a = true) {i : Nat} (hi : i < (trim a).next.length) : ∃ w, (ordw (goA a) 0 (letters a.al))[i]? = some w ∧ fAt (trim a) i = some w ∧ fAt a (run a 0 w) = some w ∧ (∀ x ∈ w, x ∈ letters a.al) ∧ w.length ≤ 50000 := by
  have hl : (trim a).next.length = (ordw (goA a) 0 (letters a.al)).length := by unfold trim; rw [num_len, ordw_length]
  rw [hl] at hi
  have hw := List.getElem?_eq_getElem hi
  have hm : (ordw (goA a) 0 (letters a.al))[i] ∈ ordw (goA a) 0 (letters a.al) := List.getElem_mem hi
  have hs := at_self hv hm
  have ho := ordw_over (letters_sorted _) hm
  have hn : (ord (goA a) 0 (letters a.al))[i]? = some (run a 0 (ordw (goA a) 0 (letters a.al))[i]) := by
    rw [← ordw_map, List.getElem?_map, hw]; rfl
  refine ⟨_, hw, ?_, hs, ho, by have := (at_word hv hs).2.2; exact small_word hv this⟩
  have h1 := at_first (trim_valid hv) (i : Int)
  have h2 := at_first hv (run a 0 (ordw (goA a) 0 (letters a.al))[i])
  rw [hs] at h2
  refine IsFirst.uniq h1 h2 fun v hx => ?_
  have hr := run_trim hv hx
  show decide (run (trim a) 0 v = (i : Int)) = decide (run a 0 v = _)
  rw [hr.1, decide_eq_decide]
  constructor
  · intro h
    have h3 := getElem_idx hr.2
    rw [show (ord (goA a) 0 (letters a.al)).idxOf (run a 0 v) = i by omega, hn] at h3
    exact (Option.some.inj h3).symm
  · intro h
    rw [h, idx_getElem ord_nodup hn]
def leads (a : A) (q : Int) : Bool := (firstA a q (accA a)).isSome
theorem leads_iff (hv : validA a = true) {q : Int} (hq : 0 ≤ q ∧ q < a.next.length) : leads a q = true ↔ ∃ v : List Int, (∀ x ∈ v, x ∈ letters a.al) ∧ accA a (run a q v) = true := (isFirst_A hv hq (accA a)).isSome
def pcRow (a : A) (q : Nat) : Bool := a.acc.getD q false || (a.next.getD q []).all fun t => !leads a t
def pcA (a : A) : Bool := (List.range a.next.length).all (pcRow a)
theorem pc_trim (hv : validA a = true) : pcA (trim a) = isPC a := by
  have ht := trim_valid hv
  have hl : letters (trim a).al = letters a.al := rfl
  rw [Bool.eq_iff_iff, isPC_iff hv]
  unfold pcA
  rw [List.all_eq_true]
  constructor
  · intro h v hx ha k hk
    cases hb : accW a (v.take k) with
    | true => rfl
    | false =>
      exfalso
      have hxk : ∀ x ∈ v.take k, x ∈ letters a.al := fun x h => hx x (List.mem_of_mem_take h)
      have hk2 : k < v.length := by
        rcases Nat.lt_or_ge k v.length with h | h
        · exact h
        · rw [List.take_of_length_le h, ha] at hb; cases hb
      have hq := run_in2 ht (w := v.take k) (over_six hxk)
      rw [← accW_trim hv hxk] at hb
      rw [← accW_trim hv hx] at ha
      have h1 := h (run (trim a) 0 (v.take k)).toNat (List.mem_range.2 (by omega))
      unfold pcRow at h1
      rw [show (trim a).acc.getD (run (trim a) 0 (v.take k)).toNat false = false from hb, Bool.false_or, List.all_eq_true, row_map ht hq] at h1
      have hxl : v[k] ∈ letters a.al := hx _ (List.getElem_mem hk2)
      have h6 : 0 ≤ v[k] ∧ v[k] < 6 := ⟨(mem_letters hxl).1, (mem_letters hxl).2.1⟩
      have h2 := h1 _ (List.mem_map.2 ⟨v[k], hxl, rfl⟩)
      have h3 : leads (trim a) (goA (trim a) (run (trim a) 0 (v.take k)) v[k]) = true := (leads_iff ht (goA_in ht hq h6)).2 ⟨v.drop (k + 1), fun x h => hx x (List.mem_of_mem_drop h), by
        have e : run (trim a) 0 v = run (trim a) (goA (trim a) (run (trim a) 0 (v.take k)) v[k]) (v.drop (k + 1)) := by
          conv => lhs; rw [← List.take_append_drop k v, List.drop_eq_getElem_cons hk2]
          rw [run_cat]; rfl
        rw [← e]; exact ha⟩
      rw [h3] at h2
      cases h2
  · intro h q hq
    have hq := List.mem_range.1 hq
    unfold pcRow
    rw [Bool.or_eq_true, List.all_eq_true]
    cases hb : (trim a).acc.getD q false with
    | true => exact .inl rfl
    | false =>
      right
      intro t htm
      rw [Bool.not_eq_true']
      cases hlead : leads (trim a) t with
      | false => rfl
      | true =>
        exfalso
        have e := row_map ht (q := (q : Int)) ⟨by omega, by omega⟩
        rw [Int.toNat_natCast] at e
        rw [e] at htm
        obtain ⟨l, hl, rfl⟩ := List.mem_map.1 htm
        have h6 : 0 ≤ l ∧ l < 6 := ⟨(mem_letters hl).1, (mem_letters hl).2.1⟩
        obtain ⟨v, hx, hg⟩ := (leads_iff ht (goA_in ht ⟨by omega, by omega⟩ h6)).1 hlead
        obtain ⟨u, hu, hfu, _, hou, _⟩ := trim_at hv hq
        have hru := (at_word ht hfu).2.1
        have hxx : ∀ x ∈ u ++ l :: v, x ∈ letters a.al := fun x h => (List.mem_append.1 h).elim (hou x) fun h => (List.mem_cons.1 h).elim (fun e => e ▸ hl) (hx x)
        have h1 := h (u ++ l :: v) hxx (by
          rw [← accW_trim hv hxx]
          unfold accW
          rw [run_cat, hru]
          exact hg) u.length (by simp)
        rw [List.take_left', ← accW_trim hv hou] at h1
        · unfold accW accA at h1
          rw [hru, Int.toNat_natCast, hb] at h1
          cases h1
        · rfl
end
end Go.Proofs.Ytdkdpmmfebdeaaa
set_option linter.unusedSimpArgs false
set_option linter.unusedVariables false
namespace Go.Proofs.Ytdkdpmmfebdeaaa
section
variable {κ μ : Type} [DecidableEq κ] [DecidableEq μ] {xs : List κ}
def dd (xs : List κ) : List κ := addAll [] xs
end
section
variable {a : A}
end
end Go.Proofs.Ytdkdpmmfebdeaaa
set_option linter.unusedSimpArgs false
set_option linter.unusedVariables false
namespace Go.Proofs.Ytdkdpmmfebdeaaa
def rowQ (a : A) (cs : List Int) (q : Nat) : List Int := (a.next.getD q []).map fun t => cs.getD t.toNat 0
def quo (a : A) (cs : List Int) : A := ⟨a.al, (dd cs).map fun c => rowQ a cs (cs.idxOf c), (dd cs).map fun c => a.acc.getD (cs.idxOf c) false⟩
section
variable {a b : A}
end
section
variable {α β : Type} [DecidableEq α] [DecidableEq β] {f : α → Int → α} {s : α} {L : List Int} {f' : β → Int → β} {g : α → β}
def pick (f' : β → Int → β) (s' : β) (us : List (List Int)) (ws : List (List Int)) : List (List Int) := ws.foldl (fun us w => wadd f' s' us w) us
end
section
variable {a : A}
end
end Go.Proofs.Ytdkdpmmfebdeaaa
set_option linter.unusedSimpArgs false
set_option linter.unusedVariables false
namespace Go.Proofs.Ytdkdpmmfebdeaaa
open Go.RowKit
section
variable {P : Program} {N : Nat} {ops : Array Oper} {Q : Exit → Act → World → Prop} {rest : List Oper} {l : Slots} {w : World}
variable {d : Nat} {ty : TypeId} {pos : String} {after : Array Edge} {g : Option (Nat × Bool)}
end
section
variable {a b : A}
theorem pc_found {q j : Nat} (hq : q < a.next.length) (hj : j < (a.next.getD q []).length) (hac : a.acc.getD q false = false) (hl : leads a ((a.next.getD q []).getD j 0) = true) : pcA a = false := by
  unfold pcA
  rw [List.all_eq_false]
  refine ⟨q, List.mem_range.2 hq, ?_⟩
  unfold pcRow
  rw [hac, Bool.false_or, List.all_eq_true]
  intro hc
  have := hc _ (getD_mem (d := 0) hj)
  rw [hl] at this
  cases this
theorem pc_all {k : Nat} (hk : a.next.length ≤ k) (h : ∀ i, i < k → i < a.next.length → pcRow a i = true) : pcA a = true := by
  unfold pcA
  rw [List.all_eq_true]
  intro i hi
  have := List.mem_range.1 hi
  exact h i (by omega) this
theorem pcRow_done {q j : Nat} (hj : (a.next.getD q []).length ≤ j) (h : a.acc.getD q false = true ∨ (((a.next.getD q []).take j).all fun t => !leads a t) = true) : pcRow a q = true := by
  unfold pcRow
  rcases h with h | h
  · rw [h]; rfl
  · rw [List.take_of_length_le hj] at h
    rw [h, Bool.or_true]
end
end Go.Proofs.Ytdkdpmmfebdeaaa
