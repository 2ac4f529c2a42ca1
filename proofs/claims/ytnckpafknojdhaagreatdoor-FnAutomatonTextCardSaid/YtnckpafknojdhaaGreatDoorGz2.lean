/-
  The texts of this proof, joined (wip/merge.py): the calculus of slots, plain mathematics, walks.
-/
import Derived.Test.YtnckpafknojdhaaGreatDoorGz1
namespace Go.Proofs
open Go.Shelf Go.RowKit
def Tryz.laysC172_ren : Go.Shelf.Ren := ⟨fun | 172 => 49 | 244 => 63 | 245 => 64 | 247 => 78 | 279 => 79 | 280 => 80 | 281 => 81 | 282 => 82 | 287 => 93 | 316 => 94 | 171 => 15 | 205 => 95 | 321 => 100 | 322 => 101 | 243 => 39 | 246 => 56 | 283 => 67 | 284 => 68 | 285 => 69 | 286 => 70 | 129 => 84 | 317 => 83 | 318 => 85 | 319 => 86 | 320 => 87 | 337 => 96 | 338 => 97 | n => n, fun | 9 => 9 | 3 => 3 | 75 => 62 | 76 => 63 | 4 => 4 | 5 => 5 | 167 => 100 | 37 => 22 | 0 => 0 | 85 => 101 | 2 => 2 | 168 => 103 | 53 => 87 | 175 => 111 | 46 => 80 | 210 => 115 | 127 => 79 | 145 => 127 | 143 => 125 | 21 => 21 | 171 => 86 | 173 => 90 | 212 => 107 | 51 => 108 | 20 => 20 | 213 => 109 | 232 => 128 | 233 => 129 | 80 => 65 | n => n, fun | 15 => 2 | 16 => 3 | 17 => 0 | 18 => 6 | 19 => 7 | n => n⟩
theorem Tryz.laysC172 : Go.Proofs.LaysC.n172 Tryz.prog Tryz.laysC172_ren := {
  mixed := by kernel_rfl
  f129 := Tryz.func84.trans (congrArg some (by kernel_rfl))
  f171 := Tryz.func15.trans (congrArg some (by kernel_rfl))
  f172 := Tryz.func49.trans (congrArg some (by kernel_rfl))
  f205 := Tryz.func95.trans (congrArg some (by kernel_rfl))
  f243 := Tryz.func39.trans (congrArg some (by kernel_rfl))
  f244 := Tryz.func63.trans (congrArg some (by kernel_rfl))
  f245 := Tryz.func64.trans (congrArg some (by kernel_rfl))
  f246 := Tryz.func56.trans (congrArg some (by kernel_rfl))
  f247 := Tryz.func78.trans (congrArg some (by kernel_rfl))
  f279 := Tryz.func79.trans (congrArg some (by kernel_rfl))
  f280 := Tryz.func80.trans (congrArg some (by kernel_rfl))
  f281 := Tryz.func81.trans (congrArg some (by kernel_rfl))
  f282 := Tryz.func82.trans (congrArg some (by kernel_rfl))
  f283 := Tryz.func67.trans (congrArg some (by kernel_rfl))
  f284 := Tryz.func68.trans (congrArg some (by kernel_rfl))
  f285 := Tryz.func69.trans (congrArg some (by kernel_rfl))
  f286 := Tryz.func70.trans (congrArg some (by kernel_rfl))
  f287 := Tryz.func93.trans (congrArg some (by kernel_rfl))
  f316 := Tryz.func94.trans (congrArg some (by kernel_rfl))
  f317 := Tryz.func83.trans (congrArg some (by kernel_rfl))
  f318 := Tryz.func85.trans (congrArg some (by kernel_rfl))
  f319 := Tryz.func86.trans (congrArg some (by kernel_rfl))
  f320 := Tryz.func87.trans (congrArg some (by kernel_rfl))
  f321 := Tryz.func100.trans (congrArg some (by kernel_rfl))
  f322 := Tryz.func101.trans (congrArg some (by kernel_rfl))
  f337 := Tryz.func96.trans (congrArg some (by kernel_rfl))
  f338 := Tryz.func97.trans (congrArg some (by kernel_rfl))
  t0 := Tryz.underlying0
  a0 := Tryz.isAgg0
  z0 := Tryz.sizeOf0
  v0 := Tryz.zeroValue0
  t2 := Tryz.underlying2
  a2 := Tryz.isAgg2
  z2 := Tryz.sizeOf2
  v2 := Tryz.zeroValue2
  t3 := Tryz.underlying3
  a3 := Tryz.isAgg3
  z3 := Tryz.sizeOf3
  v3 := Tryz.zeroValue3
  t4 := Tryz.underlying4
  a4 := Tryz.isAgg4
  z4 := Tryz.sizeOf4
  v4 := Tryz.zeroValue4
  t5 := Tryz.underlying5
  a5 := Tryz.isAgg5
  z5 := Tryz.sizeOf5
  v5 := Tryz.zeroValue5
  t9 := Tryz.underlying9
  a9 := Tryz.isAgg9
  z9 := Tryz.sizeOf9
  v9 := Tryz.zeroValue9
  t20 := Tryz.underlying20
  a20 := Tryz.isAgg20
  z20 := Tryz.sizeOf20
  v20 := Tryz.zeroValue20
  t21 := Tryz.underlying21
  a21 := Tryz.isAgg21
  z21 := Tryz.sizeOf21
  v21 := Tryz.zeroValue21
  t37 := Tryz.underlying22
  a37 := Tryz.isAgg22
  z37 := Tryz.sizeOf22
  v37 := Tryz.zeroValue22
  t46 := Tryz.underlying80
  a46 := Tryz.isAgg80
  z46 := Tryz.sizeOf80
  v46 := Tryz.zeroValue80
  t51 := Tryz.underlying108
  a51 := Tryz.isAgg108
  z51 := Tryz.sizeOf108
  v51 := Tryz.zeroValue108
  t53 := Tryz.underlying87
  a53 := Tryz.isAgg87
  z53 := Tryz.sizeOf87
  v53 := Tryz.zeroValue87
  t75 := Tryz.underlying62
  a75 := Tryz.isAgg62
  z75 := Tryz.sizeOf62
  v75 := Tryz.zeroValue62
  t76 := Tryz.underlying63
  a76 := Tryz.isAgg63
  z76 := Tryz.sizeOf63
  v76 := Tryz.zeroValue63
  t85 := Tryz.underlying101
  a85 := Tryz.isAgg101
  z85 := Tryz.sizeOf101
  v85 := Tryz.zeroValue101
  t127 := Tryz.underlying79
  a127 := Tryz.isAgg79
  z127 := Tryz.sizeOf79
  v127 := Tryz.zeroValue79
  t143 := Tryz.underlying125
  a143 := Tryz.isAgg125
  z143 := Tryz.sizeOf125
  v143 := Tryz.zeroValue125
  t145 := Tryz.underlying127
  a145 := Tryz.isAgg127
  z145 := Tryz.sizeOf127
  v145 := Tryz.zeroValue127
  t167 := Tryz.underlying100
  a167 := Tryz.isAgg100
  z167 := Tryz.sizeOf100
  v167 := Tryz.zeroValue100
  t168 := Tryz.underlying103
  a168 := Tryz.isAgg103
  z168 := Tryz.sizeOf103
  v168 := Tryz.zeroValue103
  t171 := Tryz.underlying86
  a171 := Tryz.isAgg86
  z171 := Tryz.sizeOf86
  v171 := Tryz.zeroValue86
  t173 := Tryz.underlying90
  a173 := Tryz.isAgg90
  z173 := Tryz.sizeOf90
  v173 := Tryz.zeroValue90
  t175 := Tryz.underlying111
  a175 := Tryz.isAgg111
  z175 := Tryz.sizeOf111
  v175 := Tryz.zeroValue111
  t210 := Tryz.underlying115
  a210 := Tryz.isAgg115
  z210 := Tryz.sizeOf115
  v210 := Tryz.zeroValue115
  t212 := Tryz.underlying107
  a212 := Tryz.isAgg107
  z212 := Tryz.sizeOf107
  v212 := Tryz.zeroValue107
  t213 := Tryz.underlying109
  a213 := Tryz.isAgg109
  z213 := Tryz.sizeOf109
  t232 := Tryz.underlying128
  a232 := Tryz.isAgg128
  z232 := Tryz.sizeOf128
  v232 := Tryz.zeroValue128
  t233 := Tryz.underlying129
  a233 := Tryz.isAgg129
  z233 := Tryz.sizeOf129
  v233 := Tryz.zeroValue129
  g15 := by kernel_rfl
  g16 := by kernel_rfl
  g17 := by kernel_rfl
  g18 := by kernel_rfl
  g19 := by kernel_rfl
  t80 := Tryz.underlying65
  a80 := Tryz.isAgg65
  z80 := Tryz.sizeOf65
  v80 := Tryz.zeroValue65
  i0 := by kernel_rfl
  i2 := by kernel_rfl
  i3 := by kernel_rfl
  i4 := by kernel_rfl
  i5 := by kernel_rfl
  i9 := by kernel_rfl
  i20 := by kernel_rfl
  i21 := by kernel_rfl
  i37 := by kernel_rfl
  i46 := by kernel_rfl
  i51 := by kernel_rfl
  i53 := by kernel_rfl
  i75 := by kernel_rfl
  i76 := by kernel_rfl
  i80 := by kernel_rfl
  i85 := by kernel_rfl
  i127 := by kernel_rfl
  i143 := by kernel_rfl
  i145 := by kernel_rfl
  i167 := by kernel_rfl
  i168 := by kernel_rfl
  i171 := by kernel_rfl
  i173 := by kernel_rfl
  i175 := by kernel_rfl
  i210 := by kernel_rfl
  i212 := by kernel_rfl
  i232 := by kernel_rfl
  i233 := by kernel_rfl
  m15 := by kernel_rfl
  m16 := by kernel_rfl
  m17 := by kernel_rfl
  m18 := by kernel_rfl
  m19 := by kernel_rfl
  c0 := by kernel_rfl
  c2 := by kernel_rfl
  c3 := by kernel_rfl
  c4 := by kernel_rfl
  c5 := by kernel_rfl
  c9 := by kernel_rfl
  c20 := by kernel_rfl
  c21 := by kernel_rfl
  c37 := by kernel_rfl
  c46 := by kernel_rfl
  c51 := by kernel_rfl
  c53 := by kernel_rfl
  c75 := by kernel_rfl
  c76 := by kernel_rfl
  c80 := by kernel_rfl
  c85 := by kernel_rfl
  c127 := by kernel_rfl
  c143 := by kernel_rfl
  c145 := by kernel_rfl
  c167 := by kernel_rfl
  c168 := by kernel_rfl
  c171 := by kernel_rfl
  c173 := by kernel_rfl
  c175 := by kernel_rfl
  c210 := by kernel_rfl
  c212 := by kernel_rfl
  c213 := by kernel_rfl
  c232 := by kernel_rfl
  c233 := by kernel_rfl }
theorem Tryz.strconv_Atoi_ok (s : ByteArray) (hmax : s.size ≤ 9223372036854775806) (v : Int) (h : Lib.atoiAll s.data.toList = .ok v) (w : World) :
    Calls Tryz.prog 49 #[.string s] w fun e w' => e = .returned (.tuple #[.int .i64 v, .nilIface]) ∧ (w' = w ∨ ∃ t, w' = Lib.bytesWorld w 5 t) := Any.strconv_Atoi_ok Tryz.laysC172 s hmax v h w
theorem Tryz.strconv_Atoi_syntax (s : ByteArray) (hlim : s.size ≤ 281474976710656) (h : (∀ x, ¬ Lib.atoiAll s.data.toList = .ok x) ∧ ¬ Lib.atoiAll s.data.toList = .range) (ev : Value) (w : World) (hv : w.cell? ⟨2, 0, none⟩ = some ev) (hev : ev = .nilIface ∨ ∃ te pe, ev = .iface te pe) :
    Calls Tryz.prog 49 #[.string s] w fun e w' => ∃ N, e = .returned (.tuple #[.int .i64 (0), .iface 103 (.pointer (some ⟨N, 0, none⟩))]) ∧ w.heap.size ≤ N ∧ w'.heap[N]? = some (.cells #[.string ⟨#[65, 116, 111, 105]⟩, .string s, ev] 115 (0, 0)) ∧ Below w.heap.size w w' := Any.strconv_Atoi_syntax Tryz.laysC172 s hlim (by obtain ⟨h1, h2⟩ := h; cases e : Lib.atoiAll s.data.toList <;> first | rfl | exact absurd e (h1 _) | exact absurd e h2) ev w hv hev
theorem Tryz.strconv_Atoi_range (s : ByteArray) (hlim : s.size ≤ 281474976710656) (h : Lib.atoiAll s.data.toList = .range) (ev : Value) (w : World) (hv : w.cell? ⟨3, 0, none⟩ = some ev) (hev : ev = .nilIface ∨ ∃ te pe, ev = .iface te pe) :
    Calls Tryz.prog 49 #[.string s] w fun e w' => ∃ N, e = .returned (.tuple #[.int .i64 (Lib.atoiSat s.data.toList), .iface 103 (.pointer (some ⟨N, 0, none⟩))]) ∧ w.heap.size ≤ N ∧ w'.heap[N]? = some (.cells #[.string ⟨#[65, 116, 111, 105]⟩, .string s, ev] 115 (0, 0)) ∧ Below w.heap.size w w' := Any.strconv_Atoi_range Tryz.laysC172 s hlim h ev w hv hev
def Tryz.lays143_ren : Go.Shelf.Ren := ⟨fun | 143 => 61 | 219 => 76 | 217 => 89 | 225 => 90 | 224 => 91 | 267 => 92 | 266 => 98 | 314 => 99 | n => n, fun | 9 => 9 | 3 => 3 | 4 => 4 | 5 => 5 | 46 => 80 | 146 => 122 | 51 => 108 | n => n, fun | 1 => 1 | n => n⟩
theorem Tryz.lays143 : Go.Proofs.Lays.n143 Tryz.prog Tryz.lays143_ren := {
  mixed := by kernel_rfl
  f143 := Tryz.func61.trans (congrArg some (by kernel_rfl))
  f217 := Tryz.func89.trans (congrArg some (by kernel_rfl))
  f219 := Tryz.func76.trans (congrArg some (by kernel_rfl))
  f224 := Tryz.func91.trans (congrArg some (by kernel_rfl))
  f225 := Tryz.func90.trans (congrArg some (by kernel_rfl))
  f266 := Tryz.func98.trans (congrArg some (by kernel_rfl))
  f267 := Tryz.func92.trans (congrArg some (by kernel_rfl))
  f314 := Tryz.func99.trans (congrArg some (by kernel_rfl))
  t3 := Tryz.underlying3
  a3 := Tryz.isAgg3
  z3 := Tryz.sizeOf3
  v3 := Tryz.zeroValue3
  t4 := Tryz.underlying4
  a4 := Tryz.isAgg4
  z4 := Tryz.sizeOf4
  v4 := Tryz.zeroValue4
  t5 := Tryz.underlying5
  a5 := Tryz.isAgg5
  z5 := Tryz.sizeOf5
  v5 := Tryz.zeroValue5
  t9 := Tryz.underlying9
  a9 := Tryz.isAgg9
  z9 := Tryz.sizeOf9
  v9 := Tryz.zeroValue9
  t46 := Tryz.underlying80
  a46 := Tryz.isAgg80
  z46 := Tryz.sizeOf80
  v46 := Tryz.zeroValue80
  t51 := Tryz.underlying108
  a51 := Tryz.isAgg108
  z51 := Tryz.sizeOf108
  v51 := Tryz.zeroValue108
  t146 := Tryz.underlying122
  a146 := Tryz.isAgg122
  z146 := Tryz.sizeOf122
  v146 := Tryz.zeroValue122
  g1 := by kernel_rfl }
open Go.RowKit Go.Lib in
theorem Tryz.strings_Index_one (s : ByteArray) (c : UInt8) (w : World) :
    Calls Tryz.prog 61 #[.string s, .string ⟨#[c]⟩] w fun e w' => e = .returned (.int .i64 (Lib.indexByte s.data.toList c)) ∧ w' = w := Any.strings_Index_one Tryz.lays143 s c w
def Tryz.lays138_ren : Go.Shelf.Ren := ⟨fun | 138 => 60 | 195 => 73 | 218 => 75 | 143 => 61 | 219 => 76 | 217 => 89 | 225 => 90 | 224 => 91 | 267 => 92 | 266 => 98 | 314 => 99 | n => n, fun | 9 => 9 | 3 => 3 | 4 => 4 | 5 => 5 | 0 => 0 | 46 => 80 | 146 => 122 | 51 => 108 | n => n, fun | 1 => 1 | n => n⟩
theorem Tryz.lays138 : Go.Proofs.Lays.n138 Tryz.prog Tryz.lays138_ren := {
  mixed := by kernel_rfl
  f138 := Tryz.func60.trans (congrArg some (by kernel_rfl))
  f143 := Tryz.func61.trans (congrArg some (by kernel_rfl))
  f195 := Tryz.func73.trans (congrArg some (by kernel_rfl))
  f217 := Tryz.func89.trans (congrArg some (by kernel_rfl))
  f218 := Tryz.func75.trans (congrArg some (by kernel_rfl))
  f219 := Tryz.func76.trans (congrArg some (by kernel_rfl))
  f224 := Tryz.func91.trans (congrArg some (by kernel_rfl))
  f225 := Tryz.func90.trans (congrArg some (by kernel_rfl))
  f266 := Tryz.func98.trans (congrArg some (by kernel_rfl))
  f267 := Tryz.func92.trans (congrArg some (by kernel_rfl))
  f314 := Tryz.func99.trans (congrArg some (by kernel_rfl))
  t0 := Tryz.underlying0
  a0 := Tryz.isAgg0
  z0 := Tryz.sizeOf0
  v0 := Tryz.zeroValue0
  t3 := Tryz.underlying3
  a3 := Tryz.isAgg3
  z3 := Tryz.sizeOf3
  v3 := Tryz.zeroValue3
  t4 := Tryz.underlying4
  a4 := Tryz.isAgg4
  z4 := Tryz.sizeOf4
  v4 := Tryz.zeroValue4
  t5 := Tryz.underlying5
  a5 := Tryz.isAgg5
  z5 := Tryz.sizeOf5
  v5 := Tryz.zeroValue5
  t9 := Tryz.underlying9
  a9 := Tryz.isAgg9
  z9 := Tryz.sizeOf9
  v9 := Tryz.zeroValue9
  t46 := Tryz.underlying80
  a46 := Tryz.isAgg80
  z46 := Tryz.sizeOf80
  v46 := Tryz.zeroValue80
  t51 := Tryz.underlying108
  a51 := Tryz.isAgg108
  z51 := Tryz.sizeOf108
  v51 := Tryz.zeroValue108
  t146 := Tryz.underlying122
  a146 := Tryz.isAgg122
  z146 := Tryz.sizeOf122
  v146 := Tryz.zeroValue122
  g1 := by kernel_rfl }
open Go.RowKit Go.Lib in
theorem Tryz.strings_Count_one (s : ByteArray) (c : UInt8) (w : World) :
    Calls Tryz.prog 60 #[.string s, .string ⟨#[c]⟩] w fun e w' => e = .returned (.int .i64 (Lib.countByte s.data.toList c)) ∧ w' = w := Any.strings_Count_one Tryz.lays138 s c w
def Tryz.lays221_ren : Go.Shelf.Ren := ⟨fun | 221 => 46 | 268 => 59 | 138 => 60 | 143 => 61 | 195 => 73 | 197 => 74 | 218 => 75 | 219 => 76 | 260 => 88 | 217 => 89 | 225 => 90 | 224 => 91 | 267 => 92 | 266 => 98 | 314 => 99 | n => n, fun | 9 => 9 | 3 => 3 | 31 => 37 | 4 => 4 | 0 => 0 | 105 => 96 | 21 => 21 | 5 => 5 | 46 => 80 | 119 => 118 | 139 => 121 | 138 => 120 | 146 => 122 | 51 => 108 | n => n, fun | 1 => 1 | 3 => 4 | 4 => 5 | n => n⟩
theorem Tryz.lays221 : Go.Proofs.Lays.n221 Tryz.prog Tryz.lays221_ren := {
  mixed := by kernel_rfl
  f138 := Tryz.func60.trans (congrArg some (by kernel_rfl))
  f143 := Tryz.func61.trans (congrArg some (by kernel_rfl))
  f195 := Tryz.func73.trans (congrArg some (by kernel_rfl))
  f197 := Tryz.func74.trans (congrArg some (by kernel_rfl))
  f217 := Tryz.func89.trans (congrArg some (by kernel_rfl))
  f218 := Tryz.func75.trans (congrArg some (by kernel_rfl))
  f219 := Tryz.func76.trans (congrArg some (by kernel_rfl))
  f221 := Tryz.func46.trans (congrArg some (by kernel_rfl))
  f224 := Tryz.func91.trans (congrArg some (by kernel_rfl))
  f225 := Tryz.func90.trans (congrArg some (by kernel_rfl))
  f260 := Tryz.func88.trans (congrArg some (by kernel_rfl))
  f266 := Tryz.func98.trans (congrArg some (by kernel_rfl))
  f267 := Tryz.func92.trans (congrArg some (by kernel_rfl))
  f268 := Tryz.func59.trans (congrArg some (by kernel_rfl))
  f314 := Tryz.func99.trans (congrArg some (by kernel_rfl))
  t0 := Tryz.underlying0
  a0 := Tryz.isAgg0
  z0 := Tryz.sizeOf0
  v0 := Tryz.zeroValue0
  t3 := Tryz.underlying3
  a3 := Tryz.isAgg3
  z3 := Tryz.sizeOf3
  v3 := Tryz.zeroValue3
  t4 := Tryz.underlying4
  a4 := Tryz.isAgg4
  z4 := Tryz.sizeOf4
  v4 := Tryz.zeroValue4
  t5 := Tryz.underlying5
  a5 := Tryz.isAgg5
  z5 := Tryz.sizeOf5
  v5 := Tryz.zeroValue5
  t9 := Tryz.underlying9
  a9 := Tryz.isAgg9
  z9 := Tryz.sizeOf9
  v9 := Tryz.zeroValue9
  t21 := Tryz.underlying21
  a21 := Tryz.isAgg21
  z21 := Tryz.sizeOf21
  v21 := Tryz.zeroValue21
  t31 := Tryz.underlying37
  a31 := Tryz.isAgg37
  z31 := Tryz.sizeOf37
  v31 := Tryz.zeroValue37
  t46 := Tryz.underlying80
  a46 := Tryz.isAgg80
  z46 := Tryz.sizeOf80
  v46 := Tryz.zeroValue80
  t51 := Tryz.underlying108
  a51 := Tryz.isAgg108
  z51 := Tryz.sizeOf108
  v51 := Tryz.zeroValue108
  t105 := Tryz.underlying96
  a105 := Tryz.isAgg96
  z105 := Tryz.sizeOf96
  v105 := Tryz.zeroValue96
  t119 := Tryz.underlying118
  a119 := Tryz.isAgg118
  z119 := Tryz.sizeOf118
  t138 := Tryz.underlying120
  a138 := Tryz.isAgg120
  z138 := Tryz.sizeOf120
  v138 := Tryz.zeroValue120
  t139 := Tryz.underlying121
  a139 := Tryz.isAgg121
  z139 := Tryz.sizeOf121
  v139 := Tryz.zeroValue121
  t146 := Tryz.underlying122
  a146 := Tryz.isAgg122
  z146 := Tryz.sizeOf122
  v146 := Tryz.zeroValue122
  g1 := by kernel_rfl
  g3 := by kernel_rfl
  g4 := by kernel_rfl }
end Go.Proofs
set_option linter.unusedSimpArgs false
set_option linter.unusedVariables false
namespace Go.Proofs.YtnckpafknojdhaaGreatDoor
set_option maxRecDepth 100000
theorem mixed : Tryz.prog.follows .mixedOrders = true := Tryz.checked.mixed
theorem fn4 : Fn Tryz.prog 4 Tryz.f4 := ⟨Tryz.func4, rfl, by kernel_rfl⟩
theorem fn5 : Fn Tryz.prog 5 Tryz.f5 := ⟨Tryz.func5, rfl, by kernel_rfl⟩
theorem fn6 : Fn Tryz.prog 6 Tryz.f6 := ⟨Tryz.func6, rfl, by kernel_rfl⟩
theorem fn7 : Fn Tryz.prog 7 Tryz.f7 := ⟨Tryz.func7, rfl, by kernel_rfl⟩
theorem fn8 : Fn Tryz.prog 8 Tryz.f8 := ⟨Tryz.func8, rfl, by kernel_rfl⟩
theorem fn9 : Fn Tryz.prog 9 Tryz.f9 := ⟨Tryz.func9, rfl, by kernel_rfl⟩
theorem fn10 : Fn Tryz.prog 10 Tryz.f10 := ⟨Tryz.func10, rfl, by kernel_rfl⟩
theorem fn11 : Fn Tryz.prog 11 Tryz.f11 := ⟨Tryz.func11, rfl, by kernel_rfl⟩
theorem fn12 : Fn Tryz.prog 12 Tryz.f12 := ⟨Tryz.func12, rfl, by kernel_rfl⟩
theorem fn13 : Fn Tryz.prog 13 Tryz.f13 := ⟨Tryz.func13, rfl, by kernel_rfl⟩
theorem fn14 : Fn Tryz.prog 14 Tryz.f14 := ⟨Tryz.func14, rfl, by kernel_rfl⟩
theorem fn15 : Fn Tryz.prog 15 Tryz.f15 := ⟨Tryz.func15, rfl, by kernel_rfl⟩
theorem fn16 : Fn Tryz.prog 16 Tryz.f16 := ⟨Tryz.func16, rfl, by kernel_rfl⟩
theorem fn17 : Fn Tryz.prog 17 Tryz.f17 := ⟨Tryz.func17, rfl, by kernel_rfl⟩
theorem fn18 : Fn Tryz.prog 18 Tryz.f18 := ⟨Tryz.func18, rfl, by kernel_rfl⟩
theorem fn19 : Fn Tryz.prog 19 Tryz.f19 := ⟨Tryz.func19, rfl, by kernel_rfl⟩
theorem fn20 : Fn Tryz.prog 20 Tryz.f20 := ⟨Tryz.func20, rfl, by kernel_rfl⟩
theorem fn21 : Fn Tryz.prog 21 Tryz.f21 := ⟨Tryz.func21, rfl, by kernel_rfl⟩
theorem fn22 : Fn Tryz.prog 22 Tryz.f22 := ⟨Tryz.func22, rfl, by kernel_rfl⟩
theorem fn23 : Fn Tryz.prog 23 Tryz.f23 := ⟨Tryz.func23, rfl, by kernel_rfl⟩
theorem fn24 : Fn Tryz.prog 24 Tryz.f24 := ⟨Tryz.func24, rfl, by kernel_rfl⟩
theorem fn25 : Fn Tryz.prog 25 Tryz.f25 := ⟨Tryz.func25, rfl, by kernel_rfl⟩
theorem fn26 : Fn Tryz.prog 26 Tryz.f26 := ⟨Tryz.func26, rfl, by kernel_rfl⟩
theorem fn27 : Fn Tryz.prog 27 Tryz.f27 := ⟨Tryz.func27, rfl, by kernel_rfl⟩
theorem fn28 : Fn Tryz.prog 28 Tryz.f28 := ⟨Tryz.func28, rfl, by kernel_rfl⟩
theorem fn29 : Fn Tryz.prog 29 Tryz.f29 := ⟨Tryz.func29, rfl, by kernel_rfl⟩
theorem fn30 : Fn Tryz.prog 30 Tryz.f30 := ⟨Tryz.func30, rfl, by kernel_rfl⟩
theorem fn31 : Fn Tryz.prog 31 Tryz.f31 := ⟨Tryz.func31, rfl, by kernel_rfl⟩
theorem fn32 : Fn Tryz.prog 32 Tryz.f32 := ⟨Tryz.func32, rfl, by kernel_rfl⟩
theorem fn33 : Fn Tryz.prog 33 Tryz.f33 := ⟨Tryz.func33, rfl, by kernel_rfl⟩
theorem fn34 : Fn Tryz.prog 34 Tryz.f34 := ⟨Tryz.func34, rfl, by kernel_rfl⟩
theorem fn35 : Fn Tryz.prog 35 Tryz.f35 := ⟨Tryz.func35, rfl, by kernel_rfl⟩
theorem fn36 : Fn Tryz.prog 36 Tryz.f36 := ⟨Tryz.func36, rfl, by kernel_rfl⟩
theorem fn37 : Fn Tryz.prog 37 Tryz.f37 := ⟨Tryz.func37, rfl, by kernel_rfl⟩
theorem fn38 : Fn Tryz.prog 38 Tryz.f38 := ⟨Tryz.func38, rfl, by kernel_rfl⟩
theorem fn39 : Fn Tryz.prog 39 Tryz.f39 := ⟨Tryz.func39, rfl, by kernel_rfl⟩
theorem fn43 : Fn Tryz.prog 43 Tryz.f43 := ⟨Tryz.func43, rfl, by kernel_rfl⟩
theorem fn44 : Fn Tryz.prog 44 Tryz.f44 := ⟨Tryz.func44, rfl, by kernel_rfl⟩
theorem fn45 : Fn Tryz.prog 45 Tryz.f45 := ⟨Tryz.func45, rfl, by kernel_rfl⟩
theorem fn46 : Fn Tryz.prog 46 Tryz.f46 := ⟨Tryz.func46, rfl, by kernel_rfl⟩
theorem fn47 : Fn Tryz.prog 47 Tryz.f47 := ⟨Tryz.func47, rfl, by kernel_rfl⟩
theorem fn48 : Fn Tryz.prog 48 Tryz.f48 := ⟨Tryz.func48, rfl, by kernel_rfl⟩
theorem fn49 : Fn Tryz.prog 49 Tryz.f49 := ⟨Tryz.func49, rfl, by kernel_rfl⟩
theorem fn50 : Fn Tryz.prog 50 Tryz.f50 := ⟨Tryz.func50, rfl, by kernel_rfl⟩
theorem fn51 : Fn Tryz.prog 51 Tryz.f51 := ⟨Tryz.func51, rfl, by kernel_rfl⟩
theorem fn52 : Fn Tryz.prog 52 Tryz.f52 := ⟨Tryz.func52, rfl, by kernel_rfl⟩
theorem fn53 : Fn Tryz.prog 53 Tryz.f53 := ⟨Tryz.func53, rfl, by kernel_rfl⟩
theorem fn54 : Fn Tryz.prog 54 Tryz.f54 := ⟨Tryz.func54, rfl, by kernel_rfl⟩
theorem fn55 : Fn Tryz.prog 55 Tryz.f55 := ⟨Tryz.func55, rfl, by kernel_rfl⟩
theorem fn56 : Fn Tryz.prog 56 Tryz.f56 := ⟨Tryz.func56, rfl, by kernel_rfl⟩
theorem fn61 : Fn Tryz.prog 61 Tryz.f61 := ⟨Tryz.func61, rfl, by kernel_rfl⟩
theorem fn62 : Fn Tryz.prog 62 Tryz.f62 := ⟨Tryz.func62, rfl, by kernel_rfl⟩
theorem fn65 : Fn Tryz.prog 65 Tryz.f65 := ⟨Tryz.func65, rfl, by kernel_rfl⟩
theorem fn66 : Fn Tryz.prog 66 Tryz.f66 := ⟨Tryz.func66, rfl, by kernel_rfl⟩
theorem fn67 : Fn Tryz.prog 67 Tryz.f67 := ⟨Tryz.func67, rfl, by kernel_rfl⟩
theorem fn77 : Fn Tryz.prog 77 Tryz.f77 := ⟨Tryz.func77, rfl, by kernel_rfl⟩
theorem one3 : One Tryz.prog 3 := ⟨fun _ => by kernel_rfl, fun _ => by kernel_rfl⟩
theorem one4 : One Tryz.prog 4 := ⟨fun _ => by kernel_rfl, fun _ => by kernel_rfl⟩
theorem zero4 : ∀ w, (zeroValue 4).run Tryz.prog w = .ok (.bool false) w := fun _ => by kernel_rfl
theorem one5 : One Tryz.prog 5 := ⟨fun _ => by kernel_rfl, fun _ => by kernel_rfl⟩
theorem one9 : One Tryz.prog 9 := ⟨fun _ => by kernel_rfl, fun _ => by kernel_rfl⟩
theorem one22 : One Tryz.prog 22 := ⟨fun _ => by kernel_rfl, fun _ => by kernel_rfl⟩
theorem one23 : One Tryz.prog 23 := ⟨fun _ => by kernel_rfl, fun _ => by kernel_rfl⟩
theorem one24 : One Tryz.prog 24 := ⟨fun _ => by kernel_rfl, fun _ => by kernel_rfl⟩
theorem one36 : One Tryz.prog 36 := ⟨fun _ => by kernel_rfl, fun _ => by kernel_rfl⟩
theorem zero36 : ∀ w, (zeroValue 36).run Tryz.prog w = .ok (.slice none 0 0) w := fun _ => by kernel_rfl
theorem und4 : Tryz.prog.underlying 4 = some .bool := by kernel_rfl
theorem und9 : Tryz.prog.underlying 9 = some .string := by kernel_rfl
theorem sl22 : SlT Tryz.prog 22 5 (.int .u8 0) := ⟨by kernel_rfl, ⟨_, rfl, by kernel_rfl, by kernel_rfl, by decide⟩, rfl⟩
theorem und22 : Tryz.prog.underlying 22 = some (.slice (Tryz.prog.elem 22)) := by kernel_rfl
theorem und8_22 : Tryz.prog.underlying (Tryz.prog.elem 22) = some (.int .u8) := by kernel_rfl
theorem sl23 : SlT Tryz.prog 23 36 (.slice none 0 0) := ⟨by kernel_rfl, ⟨_, rfl, by kernel_rfl, by kernel_rfl, by decide⟩, rfl⟩
theorem und23 : Tryz.prog.underlying 23 = some (.slice (Tryz.prog.elem 23)) := by kernel_rfl
theorem sl24 : SlT Tryz.prog 24 4 (.bool false) := ⟨by kernel_rfl, ⟨_, rfl, by kernel_rfl, by kernel_rfl, by decide⟩, rfl⟩
theorem und24 : Tryz.prog.underlying 24 = some (.slice (Tryz.prog.elem 24)) := by kernel_rfl
theorem sl36 : SlT Tryz.prog 36 3 (.int .i64 0) := ⟨by kernel_rfl, ⟨_, rfl, by kernel_rfl, by kernel_rfl, by decide⟩, rfl⟩
theorem und36 : Tryz.prog.underlying 36 = some (.slice (Tryz.prog.elem 36)) := by kernel_rfl
theorem sl37 : SlT Tryz.prog 37 9 (.string ByteArray.empty) := ⟨by kernel_rfl, ⟨_, rfl, by kernel_rfl, by kernel_rfl, by decide⟩, rfl⟩
theorem und37 : Tryz.prog.underlying 37 = some (.slice (Tryz.prog.elem 37)) := by kernel_rfl
theorem und62 : Tryz.prog.underlying 62 = some (.interface (Tryz.prog.methodsAt 62)) := by kernel_rfl
theorem agg26 : Agg Tryz.prog 26 3 := ⟨fun _ => by kernel_rfl, fun _ => by kernel_rfl⟩
theorem zero26 : ∀ w, (zeroValue 26).run Tryz.prog w = .ok (.agg [.int .i64 0, .slice none 0 0, .slice none 0 0].toArray) w := fun _ => by kernel_rfl
theorem st26 : StT Tryz.prog 26 3 [.int .i64 0, .slice none 0 0, .slice none 0 0] := StT.of (by kernel_rfl) (fun _ => by kernel_rfl) zero26
theorem fld26_0 : Fld Tryz.prog 26 0 0 := fun _ _ _ => by kernel_rfl
theorem fld26_1 : Fld Tryz.prog 26 1 1 := fun _ _ _ => by kernel_rfl
theorem fld26_2 : Fld Tryz.prog 26 2 2 := fun _ _ _ => by kernel_rfl
theorem zero73 : ∀ w, (zeroValue 73).run Tryz.prog w = .ok (.agg [.slice none 0 0, .int .i64 0].toArray) w := fun _ => by kernel_rfl
theorem st73 : StT Tryz.prog 73 2 [.slice none 0 0, .int .i64 0] := StT.of (by kernel_rfl) (fun _ => by kernel_rfl) zero73
theorem fld73_0 : Fld Tryz.prog 73 0 0 := fun _ _ _ => by kernel_rfl
theorem fld73_1 : Fld Tryz.prog 73 1 1 := fun _ _ _ => by kernel_rfl
theorem conv3_5 : Cnv Tryz.prog 3 5 .u8 := Cnv.of (by kernel_rfl) (by kernel_rfl)
theorem conv3_80 : Cnv Tryz.prog 3 80 .u64 := Cnv.of (by kernel_rfl) (by kernel_rfl)
theorem conv5_3 : Cnv Tryz.prog 5 3 .i64 := Cnv.of (by kernel_rfl) (by kernel_rfl)
def OwnA (w : World) (B : Nat) (v : Value) (a : A) : Prop := ∃ nx ac, v = .agg #[.int .i64 a.al, nx, ac] ∧ OwnRows w B w.heap.size 36 3 nx a.next ∧ Own w B 4 ac (a.acc.map Value.bool)
def RowsA (w : World) (v : Value) (a : A) : Prop := ∃ nx ac, v = .agg #[.int .i64 a.al, nx, ac] ∧ Rows w 36 3 nx a.next ∧ Bools w 4 ac a.acc
end Go.Proofs.YtnckpafknojdhaaGreatDoor
set_option linter.unusedSimpArgs false
set_option linter.unusedVariables false
namespace Go.Proofs.YtnckpafknojdhaaGreatDoor
open Go.RowKit
set_option maxRecDepth 100000 in
theorem has_c (s n : Int) (h : 0 ≤ s ∧ s ≤ 9223372036854775807) (w0 : World) : Ret Tryz.prog 43 #[Value.int .i64 s, Value.int .i64 n] w0 (fun v w => v = .bool (hs s n) ∧ w0 = w) := by
  refine Ret.of (args := [Value.int .i64 s, Value.int .i64 n]) Tryz.func43 rfl rfl rfl ?_
  rintro _ rfl
  show Cq _ _ _ _ [(0, Value.int .i64 s), (1, Value.int .i64 n)] _
  refine Cq.seq ?_
  refine Cq.region ?_
  refine Sq.assign .plain rfl rfl ?_
  refine Sq.nil ?_
  refine Eq.next ?_
  refine Cq.seq ?_
  refine Cq.region ?_
  refine Sq.move .plain rfl rfl ?_
  refine Sq.geq .plain rfl rfl rfl ?_
  refine Sq.part (fun h0 => ?_) (fun h0 => ?_)
  · refine Sq.move .plain rfl rfl ?_
    refine Sq.move (.met rfl rfl rfl) rfl rfl ?_
    refine Sq.move (.met rfl rfl rfl) rfl rfl ?_
    refine Sq.shr (.met rfl rfl rfl) rfl rfl rfl (by omega) ?_
    refine Sq.and1 (.met rfl rfl rfl) rfl rfl (by first | omega | exact shr_ok (by omega)) ?_
    refine Sq.eql (.met rfl rfl rfl) rfl rfl rfl ?_
    refine Sq.pickT .plain rfl rfl rfl ?_
    refine Sq.assign .plain rfl rfl ?_
    refine Sq.nil ?_
    refine Eq.next ?_
    refine Cq.ret ?_
    refine Eq.ret1 rfl rfl ?_
    exact ⟨by rw [hs_shift s n h.1 h.2 h0], rfl⟩
  refine Sq.move .plain rfl rfl ?_
  refine Sq.off rfl rfl rfl rfl rfl rfl ?_
  refine Sq.off rfl rfl rfl rfl rfl rfl ?_
  refine Sq.off rfl rfl rfl rfl rfl rfl ?_
  refine Sq.off rfl rfl rfl rfl rfl rfl ?_
  refine Sq.off rfl rfl rfl rfl rfl rfl ?_
  refine Sq.pickF .plain rfl rfl rfl ?_
  refine Sq.assign .plain rfl rfl ?_
  refine Sq.nil ?_
  refine Eq.next ?_
  refine Cq.ret ?_
  refine Eq.ret1 rfl rfl ?_
  exact ⟨by simp [hs, h0], rfl⟩
set_option maxRecDepth 100000 in
theorem l1Has_c (s n : Int) (h : 0 ≤ s ∧ s ≤ 9223372036854775807) (hn : 0 ≤ n ∧ n ≤ 9223372036854775807) (w0 : World) : Ret Tryz.prog 45 #[Value.int .i64 s, Value.int .i64 n] w0 (fun v w => v = .bool (hs s n) ∧ w0 = w) := by
  refine Ret.of (args := [Value.int .i64 s, Value.int .i64 n]) Tryz.func45 rfl rfl rfl ?_
  rintro _ rfl
  show Cq _ _ _ _ [(0, Value.int .i64 s), (1, Value.int .i64 n)] _
  refine Cq.seq ?_
  refine Cq.region ?_
  refine Sq.assign .plain rfl rfl ?_
  refine Sq.nil ?_
  refine Eq.next ?_
  refine Cq.seq ?_
  refine Cq.region ?_
  refine Sq.move .plain rfl rfl ?_
  refine Sq.move .plain rfl rfl ?_
  refine Sq.convU conv3_80 .plain rfl rfl (by omega) ?_
  refine Sq.shr .plain rfl rfl rfl (by omega) ?_
  refine Sq.and1 .plain rfl rfl (by first | omega | exact shr_ok (by omega)) ?_
  refine Sq.eql .plain rfl rfl rfl ?_
  refine Sq.assign .plain rfl rfl ?_
  refine Sq.nil ?_
  refine Eq.next ?_
  refine Cq.ret ?_
  refine Eq.ret1 rfl rfl ?_
  exact ⟨by rw [hs_shift s n h.1 h.2 hn.1], rfl⟩
set_option maxRecDepth 100000 in
theorem isAlphabet_c (n : Int) (w0 : World) : Ret Tryz.prog 17 #[Value.int .i64 n] w0 (fun v w => v = .bool (decide (0 ≤ n ∧ n ≤ 63)) ∧ w0 = w) := by
  refine Ret.of (args := [Value.int .i64 n]) Tryz.func17 rfl rfl rfl ?_
  rintro _ rfl
  show Cq _ _ _ _ [(0, Value.int .i64 n)] _
  refine Cq.seq ?_
  refine Cq.region ?_
  refine Sq.assign .plain rfl rfl ?_
  refine Sq.nil ?_
  refine Eq.next ?_
  refine Cq.seq ?_
  refine Cq.region ?_
  refine Sq.move .plain rfl rfl ?_
  refine Sq.geq .plain rfl rfl rfl ?_
  refine Sq.part (fun c1 => ?_) (fun c1 => ?_)
  · refine Sq.move .plain rfl rfl ?_
    refine Sq.move (.met rfl rfl rfl) rfl rfl ?_
    refine Sq.leq (.met rfl rfl rfl) rfl rfl rfl ?_
    refine Sq.pickT .plain rfl rfl rfl ?_
    refine Sq.assign .plain rfl rfl ?_
    refine Sq.nil ?_
    refine Eq.next ?_
    refine Cq.ret ?_
    refine Eq.ret1 rfl rfl ?_
    exact ⟨by simp; omega, rfl⟩
  refine Sq.move .plain rfl rfl ?_
  refine Sq.off rfl rfl rfl rfl rfl rfl ?_
  refine Sq.off rfl rfl rfl rfl rfl rfl ?_
  refine Sq.pickF .plain rfl rfl rfl ?_
  refine Sq.assign .plain rfl rfl ?_
  refine Sq.nil ?_
  refine Eq.next ?_
  refine Cq.ret ?_
  refine Eq.ret1 rfl rfl ?_
  exact ⟨by simp; omega, rfl⟩
set_option maxRecDepth 100000 in
theorem l1Alphabet_c (n : Int) (w0 : World) : Ret Tryz.prog 21 #[Value.int .i64 n] w0 (fun v w => v = .bool (decide (0 ≤ n ∧ n ≤ 63)) ∧ w0 = w) := by
  refine Ret.of (args := [Value.int .i64 n]) Tryz.func21 rfl rfl rfl ?_
  rintro _ rfl
  show Cq _ _ _ _ [(0, Value.int .i64 n)] _
  refine Cq.seq ?_
  refine Cq.region ?_
  refine Sq.assign .plain rfl rfl ?_
  refine Sq.nil ?_
  refine Eq.next ?_
  refine Cq.seq ?_
  refine Cq.region ?_
  refine Sq.move .plain rfl rfl ?_
  refine Sq.geq .plain rfl rfl rfl ?_
  refine Sq.part (fun c1 => ?_) (fun c1 => ?_)
  · refine Sq.move .plain rfl rfl ?_
    refine Sq.move (.met rfl rfl rfl) rfl rfl ?_
    refine Sq.leq (.met rfl rfl rfl) rfl rfl rfl ?_
    refine Sq.pickT .plain rfl rfl rfl ?_
    refine Sq.assign .plain rfl rfl ?_
    refine Sq.nil ?_
    refine Eq.next ?_
    refine Cq.ret ?_
    refine Eq.ret1 rfl rfl ?_
    exact ⟨by simp; omega, rfl⟩
  refine Sq.move .plain rfl rfl ?_
  refine Sq.off rfl rfl rfl rfl rfl rfl ?_
  refine Sq.off rfl rfl rfl rfl rfl rfl ?_
  refine Sq.pickF .plain rfl rfl rfl ?_
  refine Sq.assign .plain rfl rfl ?_
  refine Sq.nil ?_
  refine Eq.next ?_
  refine Cq.ret ?_
  refine Eq.ret1 rfl rfl ?_
  exact ⟨by simp; omega, rfl⟩
set_option maxRecDepth 100000 in
theorem lettersOf_c (al : Int) (h : 0 ≤ al ∧ al ≤ 63) (w0 : World) : Ret Tryz.prog 18 #[Value.int .i64 al] w0 (fun v w => Own w w0.heap.size 3 v ((letters al).map (Value.int .i64)) ∧ Ext w0 w) := by
  have E := Ext.refl w0
  refine Ret.of (args := [Value.int .i64 al]) Tryz.func18 rfl rfl rfl ?_
  rintro _ rfl
  show Cq _ _ _ _ [(0, Value.int .i64 al)] _
  refine Cq.seq ?_
  refine Cq.region ?_
  refine Sq.assign .plain rfl rfl ?_
  refine Sq.nil ?_
  refine Eq.next ?_
  refine Cq.seq ?_
  refine Cq.region ?_
  refine Sq.assign .plain rfl rfl ?_
  refine Sq.nil ?_
  refine Eq.next ?_
  refine Cq.seq ?_
  refine Cq.seq ?_
  refine Cq.region ?_
  refine Sq.move .plain rfl rfl ?_
  refine Sq.nil ?_
  refine Eq.next ?_
  refine Cq.block ?_
  refine Cq.loop (fun nn w ls => ∃ (k : Int), ∃ (v : Value), ls = [(0, Value.int .i64 al), (3, v), (5, Value.int .i64 k)] ∧ (0 ≤ k ∧ k ≤ 6) ∧ Own w w0.heap.size 3 v ((lettersTo al k.toNat).map (Value.int .i64)) ∧ Ext w0 w ∧ nn = (6 - k).toNat) _ _ ⟨0, _, rfl, by omega, Own.nil _ _ _, E, rfl⟩ (.cons rfl (.cons rfl (.cons rfl (.nil)))) ?_
  rintro nn wl1 ls ⟨k, v, rfl, hk, ho, E, rfl⟩
  have hs1 := Below.size E
  have hl := lettersTo_length al k.toNat
  refine Cq.seq ?_
  refine Cq.region ?_
  refine Sq.lss .plain rfl rfl rfl ?_
  refine Sq.part (fun c2 => ?_) (fun c2 => ?_)
  · refine Sq.nil ?_
    refine Eq.next ?_
    refine Cq.seq ?_
    refine Cq.thn rfl ?_
    refine Cq.skip ?_
    refine Eq.next ?_
    refine Cq.seq ?_
    refine Cq.block ?_
    refine Cq.seq ?_
    refine Cq.region ?_
    refine Sq.move .plain rfl rfl ?_
    refine Sq.assign .plain rfl rfl ?_
    refine Sq.nil ?_
    refine Eq.next ?_
    refine Cq.seq ?_
    refine Cq.region ?_
    refine Sq.move .plain rfl rfl ?_
    refine Sq.move .plain rfl rfl ?_
    refine Sq.call fn43 .plain rfl rfl (has_c _ _ (by omega) _) ?_
    rintro _ _ ⟨rfl, rfl⟩
    refine Sq.partB (fun hb => ?_) (fun hb => ?_)
    · refine Sq.nil ?_
      refine Eq.next ?_
      refine Cq.thn rfl ?_
      refine Cq.region ?_
      refine Sq.move .plain rfl rfl ?_
      refine Sq.move .plain rfl rfl ?_
      refine Sq.app1 sl36 ho (by omega) (by simp; omega) .plain rfl rfl rfl rfl rfl rfl rfl (fun v3 w4 ho6 g5 _ => ?_)
      have hs7 := g5.size
      replace E := E.owned ho g5 (by omega)
      refine Sq.assign .plain rfl rfl ?_
      refine Sq.nil ?_
      refine Eq.end ?_
      refine Eq.next ?_
      refine Cq.region ?_
      refine Sq.add .plain rfl rfl rfl (by omega) ?_
      refine Sq.move .plain rfl rfl ?_
      refine Sq.nil ?_
      have e1 := toNat_succ hk.1
      refine Eq.round _ _ ⟨k + 1, _, rfl, by omega, (by rw [e1, lettersTo_T (by rw [Int.toNat_of_nonneg hk.1]; exact hb)]; simpa [Int.toNat_of_nonneg hk.1] using ho6), E, rfl⟩ (by omega) (.cons rfl (.cons rfl (.cons rfl (.nil))))
    refine Sq.nil ?_
    refine Eq.next ?_
    refine Cq.els rfl ?_
    refine Cq.skip ?_
    refine Eq.end ?_
    refine Eq.next ?_
    refine Cq.region ?_
    refine Sq.add .plain rfl rfl rfl (by omega) ?_
    refine Sq.move .plain rfl rfl ?_
    refine Sq.nil ?_
    have e1 := toNat_succ hk.1
    refine Eq.round _ _ ⟨k + 1, _, rfl, by omega, (by rw [e1, lettersTo_F (by rw [Int.toNat_of_nonneg hk.1]; exact hb)]; exact ho), E, rfl⟩ (by omega) (.cons rfl (.cons rfl (.cons rfl (.nil))))
  refine Sq.nil ?_
  refine Eq.next ?_
  refine Cq.seq ?_
  refine Cq.els rfl ?_
  refine Cq.exit ?_
  refine Eq.past ?_
  refine Eq.past ?_
  refine Eq.hit ?_
  refine Eq.next ?_
  refine Cq.seq ?_
  refine Cq.region ?_
  refine Sq.move .plain rfl rfl ?_
  refine Sq.assign .plain rfl rfl ?_
  refine Sq.nil ?_
  refine Eq.next ?_
  refine Cq.ret ?_
  refine Eq.ret1 rfl rfl ?_
  obtain rfl : k = 6 := by omega
  exact ⟨ho, E⟩
set_option maxRecDepth 100000 in
theorem l1Letters_c (al : Int) (h : 0 ≤ al ∧ al ≤ 63) (w0 : World) : Ret Tryz.prog 23 #[Value.int .i64 al] w0 (fun v w => Own w w0.heap.size 3 v ((letters al).map (Value.int .i64)) ∧ Ext w0 w) := by
  have E := Ext.refl w0
  refine Ret.of (args := [Value.int .i64 al]) Tryz.func23 rfl rfl rfl ?_
  rintro _ rfl
  show Cq _ _ _ _ [(0, Value.int .i64 al)] _
  refine Cq.seq ?_
  refine Cq.region ?_
  refine Sq.assign .plain rfl rfl ?_
  refine Sq.nil ?_
  refine Eq.next ?_
  refine Cq.seq ?_
  refine Cq.region ?_
  refine Sq.lit sl36 rfl rfl .plain rfl rfl one_nil (fun b1 w2 e3 hlo4 ho5 _ => ?_)
  replace ho5 := ho5 w0.heap.size (Nat.le_refl _)
  have hs7 := Below.size e3
  replace E := E.trans e3
  refine Sq.assign .plain rfl rfl ?_
  refine Sq.nil ?_
  refine Eq.next ?_
  refine Cq.seq ?_
  refine Cq.seq ?_
  refine Cq.region ?_
  refine Sq.assign .plain rfl rfl ?_
  refine Sq.nil ?_
  refine Eq.next ?_
  refine Cq.block ?_
  refine Cq.loop (fun nn w ls => ∃ (k : Int), ∃ (v : Value), ls = [(0, Value.int .i64 al), (3, v), (4, Value.int .i64 k)] ∧ (0 ≤ k ∧ k ≤ 6) ∧ Own w w0.heap.size 3 v ((lettersTo al k.toNat).map (Value.int .i64)) ∧ Ext w0 w ∧ nn = (6 - k).toNat) _ _ ⟨0, _, rfl, by omega, Own.mono ho5 (by omega), E, rfl⟩ (.cons rfl (.cons rfl (.cons rfl (.nil)))) ?_
  rintro nn wl1 ls ⟨k, v, rfl, hk, ho, E, rfl⟩
  have hs8 := Below.size E
  have hl := lettersTo_length al k.toNat
  refine Cq.seq ?_
  refine Cq.seq ?_
  refine Cq.region ?_
  refine Sq.move .plain rfl rfl ?_
  refine Sq.lss .plain rfl rfl rfl ?_
  refine Sq.part (fun c9 => ?_) (fun c9 => ?_)
  · refine Sq.nil ?_
    refine Eq.next ?_
    refine Cq.thn rfl ?_
    refine Cq.skip ?_
    refine Eq.next ?_
    refine Cq.seq ?_
    refine Cq.block ?_
    refine Cq.seq ?_
    refine Cq.region ?_
    refine Sq.move .plain rfl rfl ?_
    refine Sq.move .plain rfl rfl ?_
    refine Sq.call fn45 .plain rfl rfl (l1Has_c _ _ (by omega) (by omega) _) ?_
    rintro _ _ ⟨rfl, rfl⟩
    refine Sq.partB (fun hb => ?_) (fun hb => ?_)
    · refine Sq.nil ?_
      refine Eq.next ?_
      refine Cq.thn rfl ?_
      refine Cq.region ?_
      refine Sq.move .plain rfl rfl ?_
      refine Sq.move .plain rfl rfl ?_
      refine Sq.app1 sl36 ho (by omega) (by simp; omega) .plain rfl rfl rfl rfl rfl rfl rfl (fun v10 w11 ho13 g12 _ => ?_)
      have hs14 := g12.size
      replace E := E.owned ho g12 (by omega)
      refine Sq.assign .plain rfl rfl ?_
      refine Sq.nil ?_
      refine Eq.end ?_
      refine Eq.next ?_
      refine Cq.region ?_
      refine Sq.move .plain rfl rfl ?_
      refine Sq.add .plain rfl rfl rfl (by omega) ?_
      refine Sq.assign .plain rfl rfl ?_
      refine Sq.nil ?_
      have e1 := toNat_succ hk.1
      refine Eq.round _ _ ⟨k + 1, _, rfl, by omega, (by rw [e1, lettersTo_T (by rw [Int.toNat_of_nonneg hk.1]; exact hb)]; simpa [Int.toNat_of_nonneg hk.1] using ho13), E, rfl⟩ (by omega) (.cons rfl (.cons rfl (.cons rfl (.nil))))
    refine Sq.nil ?_
    refine Eq.next ?_
    refine Cq.els rfl ?_
    refine Cq.skip ?_
    refine Eq.end ?_
    refine Eq.next ?_
    refine Cq.region ?_
    refine Sq.move .plain rfl rfl ?_
    refine Sq.add .plain rfl rfl rfl (by omega) ?_
    refine Sq.assign .plain rfl rfl ?_
    refine Sq.nil ?_
    have e1 := toNat_succ hk.1
    refine Eq.round _ _ ⟨k + 1, _, rfl, by omega, (by rw [e1, lettersTo_F (by rw [Int.toNat_of_nonneg hk.1]; exact hb)]; exact ho), E, rfl⟩ (by omega) (.cons rfl (.cons rfl (.cons rfl (.nil))))
  refine Sq.nil ?_
  refine Eq.next ?_
  refine Cq.els rfl ?_
  refine Cq.exit ?_
  refine Eq.past ?_
  refine Eq.past ?_
  refine Eq.hit ?_
  refine Eq.next ?_
  refine Cq.seq ?_
  refine Cq.region ?_
  refine Sq.move .plain rfl rfl ?_
  refine Sq.assign .plain rfl rfl ?_
  refine Sq.nil ?_
  refine Eq.next ?_
  refine Cq.ret ?_
  refine Eq.ret1 rfl rfl ?_
  obtain rfl : k = 6 := by omega
  exact ⟨ho, E⟩
set_option maxRecDepth 100000 in
theorem l3Row_c (w0 : World) (xs : List Int) (r : Value) (hr : Ints w0 3 r xs) (m n : Int) (hm : m ≤ 1000000) : Ret Tryz.prog 22 #[r, Value.int .i64 m, Value.int .i64 n] w0 (fun v w => v = .bool (rowOk m n xs) ∧ w0 = w) := by
  refine Ret.of (args := [r, Value.int .i64 m, Value.int .i64 n]) Tryz.func22 rfl rfl rfl ?_
  rintro _ rfl
  show Cq _ _ _ _ [(0, r), (1, Value.int .i64 m), (2, Value.int .i64 n)] _
  refine Cq.seq ?_
  refine Cq.region ?_
  refine Sq.assign .plain rfl rfl ?_
  refine Sq.nil ?_
  refine Eq.next ?_
  refine Cq.seq ?_
  refine Cq.seq ?_
  refine Cq.region ?_
  refine Sq.move .plain rfl rfl ?_
  refine Sq.lenInts hr .plain rfl und36 rfl ?_
  refine Sq.move .plain rfl rfl ?_
  refine Sq.neq .plain rfl rfl rfl ?_
  refine Sq.part (fun c1 => ?_) (fun c1 => ?_)
  · refine Sq.nil ?_
    refine Eq.next ?_
    refine Cq.thn rfl ?_
    refine Cq.seq ?_
    refine Cq.region ?_
    refine Sq.assign .plain rfl rfl ?_
    refine Sq.nil ?_
    refine Eq.next ?_
    refine Cq.ret ?_
    refine Eq.pastRet ?_
    refine Eq.ret1 rfl rfl ?_
    exact ⟨by first | rw [rowOk_len (by omega)] | rw [rowOk_bad (by omega) (k := k.toNat) (by omega) (inB_F (by omega))] | rw [rowOk_good (by omega) hp (by omega)], rfl⟩
  refine Sq.nil ?_
  refine Eq.next ?_
  refine Cq.els rfl ?_
  refine Cq.skip ?_
  refine Eq.next ?_
  refine Cq.seq ?_
  refine Cq.seq ?_
  refine Cq.region ?_
  refine Sq.assign .plain rfl rfl ?_
  refine Sq.nil ?_
  refine Eq.next ?_
  refine Cq.block ?_
  refine Cq.loop (fun nn w ls => ∃ (k : Int), ls = [(0, r), (2, Value.int .i64 n), (7, Value.int .i64 k)] ∧ w0 = w ∧ (0 ≤ k ∧ k ≤ xs.length) ∧ (xs.take k.toNat).all (inB n) = true ∧ nn = ((xs.length : Int) - k).toNat) _ _ ⟨0, rfl, rfl, by omega, rfl, rfl⟩ (.cons rfl (.cons rfl (.cons rfl (.nil)))) ?_
  rintro n1 w ls ⟨k, rfl, rfl, hk, hp, rfl⟩
  refine Cq.seq ?_
  refine Cq.seq ?_
  refine Cq.region ?_
  refine Sq.move .plain rfl rfl ?_
  refine Sq.move .plain rfl rfl ?_
  refine Sq.lenInts hr .plain rfl und36 rfl ?_
  refine Sq.lss .plain rfl rfl rfl ?_
  refine Sq.part (fun c2 => ?_) (fun c2 => ?_)
  · refine Sq.nil ?_
    refine Eq.next ?_
    refine Cq.thn rfl ?_
    refine Cq.skip ?_
    refine Eq.next ?_
    refine Cq.seq ?_
    refine Cq.block ?_
    refine Cq.seq ?_
    refine Cq.region ?_
    refine Sq.move .plain rfl rfl ?_
    refine Sq.move .plain rfl rfl ?_
    refine Sq.idxInts sl36 one3 hr .plain rfl rfl rfl .plain rfl rfl (by omega) (by omega) ?_
    refine Sq.lss .plain rfl rfl rfl ?_
    refine Sq.part (fun c3 => ?_) (fun c3 => ?_)
    · refine Sq.move .plain rfl rfl ?_
      refine Sq.off rfl rfl rfl rfl rfl rfl ?_
      refine Sq.off rfl rfl rfl rfl rfl rfl ?_
      refine Sq.off rfl rfl rfl rfl rfl rfl ?_
      refine Sq.off rfl rfl rfl rfl rfl rfl ?_
      refine Sq.off rfl rfl rfl rfl rfl rfl ?_
      refine Sq.off rfl rfl rfl rfl rfl rfl ?_
      refine Sq.pickT .plain rfl rfl rfl ?_
      refine Sq.nil ?_
      refine Eq.next ?_
      refine Cq.thn rfl ?_
      refine Cq.seq ?_
      refine Cq.region ?_
      refine Sq.assign .plain rfl rfl ?_
      refine Sq.nil ?_
      refine Eq.next ?_
      refine Cq.ret ?_
      refine Eq.outRet ?_
      refine Eq.pastRet ?_
      refine Eq.pastRet ?_
      refine Eq.outRet ?_
      refine Eq.pastRet ?_
      refine Eq.ret1 rfl rfl ?_
      exact ⟨by first | rw [rowOk_len (by omega)] | rw [rowOk_bad (by omega) (k := k.toNat) (by omega) (inB_F (by omega))] | rw [rowOk_good (by omega) hp (by omega)], rfl⟩
    refine Sq.move .plain rfl rfl ?_
    refine Sq.move (.met rfl rfl rfl) rfl rfl ?_
    refine Sq.move (.met rfl rfl rfl) rfl rfl ?_
    refine Sq.idxInts sl36 one3 hr (.met rfl rfl rfl) rfl rfl rfl (.met rfl rfl rfl) rfl rfl (by omega) (by omega) ?_
    refine Sq.move (.met rfl rfl rfl) rfl rfl ?_
    refine Sq.geq (.met rfl rfl rfl) rfl rfl rfl ?_
    refine Sq.part (fun c4 => ?_) (fun c4 => ?_)
    · refine Sq.pickF .plain rfl rfl rfl ?_
      refine Sq.nil ?_
      refine Eq.next ?_
      refine Cq.thn rfl ?_
      refine Cq.seq ?_
      refine Cq.region ?_
      refine Sq.assign .plain rfl rfl ?_
      refine Sq.nil ?_
      refine Eq.next ?_
      refine Cq.ret ?_
      refine Eq.outRet ?_
      refine Eq.pastRet ?_
      refine Eq.pastRet ?_
      refine Eq.outRet ?_
      refine Eq.pastRet ?_
      refine Eq.ret1 rfl rfl ?_
      exact ⟨by first | rw [rowOk_len (by omega)] | rw [rowOk_bad (by omega) (k := k.toNat) (by omega) (inB_F (by omega))] | rw [rowOk_good (by omega) hp (by omega)], rfl⟩
    refine Sq.pickF .plain rfl rfl rfl ?_
    refine Sq.nil ?_
    refine Eq.next ?_
    refine Cq.els rfl ?_
    refine Cq.skip ?_
    refine Eq.end ?_
    refine Eq.next ?_
    refine Cq.region ?_
    refine Sq.move .plain rfl rfl ?_
    refine Sq.add .plain rfl rfl rfl (by omega) ?_
    refine Sq.assign .plain rfl rfl ?_
    refine Sq.nil ?_
    have e1 := toNat_succ hk.1
    refine Eq.round _ _ ⟨k + 1, rfl, rfl, by omega, by rw [e1]; exact all_snoc (d := 0) hp (by omega) (inB_T (by omega)), rfl⟩ (by omega) (.cons rfl (.cons rfl (.cons rfl (.nil))))
  refine Sq.nil ?_
  refine Eq.next ?_
  refine Cq.els rfl ?_
  refine Cq.exit ?_
  refine Eq.past ?_
  refine Eq.past ?_
  refine Eq.hit ?_
  refine Eq.next ?_
  refine Cq.seq ?_
  refine Cq.region ?_
  refine Sq.assign .plain rfl rfl ?_
  refine Sq.nil ?_
  refine Eq.next ?_
  refine Cq.ret ?_
  refine Eq.ret1 rfl rfl ?_
  exact ⟨by first | rw [rowOk_len (by omega)] | rw [rowOk_bad (by omega) (k := k.toNat) (by omega) (inB_F (by omega))] | rw [rowOk_good (by omega) hp (by omega)], rfl⟩
end Go.Proofs.YtnckpafknojdhaaGreatDoor
set_option linter.unusedSimpArgs false
set_option linter.unusedVariables false
namespace Go.Proofs.YtnckpafknojdhaaGreatDoor
open Go.RowKit
set_option maxRecDepth 100000 in
theorem sValid_c (w0 : World) (a : A) (nx ac : Value) (hnx : Rows w0 36 3 nx a.next) (hac : Bools w0 4 ac a.acc) : Ret Tryz.prog 8 #[Value.agg #[Value.int .i64 a.al, nx, ac]] w0 (fun v w => v = .bool (validA a) ∧ Ext w0 w) := by
  have E := Ext.refl w0
  refine Ret.of (args := [Value.agg #[Value.int .i64 a.al, nx, ac]]) Tryz.func8 rfl rfl rfl ?_
  rintro _ rfl
  show Cq _ _ _ _ [(0, Value.agg #[Value.int .i64 a.al, nx, ac])] _
  refine Cq.seq ?_
  refine Cq.region ?_
  refine Sq.box .plain rfl rfl (fun b1 w2 e3 hB4 hlo5 => ?_)
  have hd6 := Nat.le_trans (Below.size E) hlo5
  have hs7 := Below.size e3
  replace E := E.trans e3
  refine Sq.assign .plain rfl rfl ?_
  refine Sq.nil ?_
  refine Eq.next ?_
  refine Cq.seq ?_
  refine Cq.region ?_
  refine Sq.fieldAddr fld26_1 .plain rfl rfl ?_
  refine Sq.loadB one23 .plain rfl rfl hB4 rfl ?_
  refine Sq.lenRows (hnx.ext E) .plain rfl und23 rfl ?_
  refine Sq.assign .plain rfl rfl ?_
  refine Sq.nil ?_
  refine Eq.next ?_
  refine Cq.seq ?_
  refine Cq.seq ?_
  refine Cq.region ?_
  refine Sq.fieldAddr fld26_0 .plain rfl rfl ?_
  refine Sq.loadB one3 .plain rfl rfl hB4 rfl ?_
  refine Sq.call fn21 .plain rfl rfl (l1Alphabet_c _ _) ?_
  rintro _ _ ⟨rfl, rfl⟩
  refine Sq.part (fun c8 => ?_) (fun c8 => ?_)
  · refine Sq.notT .plain rfl rfl ?_
    refine Sq.move .plain rfl rfl ?_
    refine Sq.move (.met rfl rfl rfl) rfl rfl ?_
    refine Sq.lss (.met rfl rfl rfl) rfl rfl rfl ?_
    refine Sq.part (fun c9 => ?_) (fun c9 => ?_)
    · refine Sq.pickF .plain rfl rfl rfl ?_
      refine Sq.move .plain rfl rfl ?_
      refine Sq.off rfl rfl rfl rfl rfl rfl ?_
      refine Sq.off rfl rfl rfl rfl rfl rfl ?_
      refine Sq.pickT .plain rfl rfl rfl ?_
      refine Sq.move .plain rfl rfl ?_
      refine Sq.off rfl rfl rfl rfl rfl rfl ?_
      refine Sq.off rfl rfl rfl rfl rfl rfl ?_
      refine Sq.off rfl rfl rfl rfl rfl rfl ?_
      refine Sq.off rfl rfl rfl rfl rfl rfl ?_
      refine Sq.off rfl rfl rfl rfl rfl rfl ?_
      refine Sq.pickT .plain rfl rfl rfl ?_
      refine Sq.nil ?_
      refine Eq.next ?_
      refine Cq.thn rfl ?_
      refine Cq.seq ?_
      refine Cq.region ?_
      refine Sq.assign .plain rfl rfl ?_
      refine Sq.nil ?_
      refine Eq.next ?_
      refine Cq.ret ?_
      refine Eq.pastRet ?_
      refine Eq.ret1 rfl rfl ?_
      exact ⟨by first | rw [validA_al (by omega)] | rw [validA_n (by omega)] | rw [validA_acc (by omega)] | rw [validA_row (k := k.toNat) (by omega) hrow] | rw [validA_good (k := k.toNat) (by omega) (by omega) (by omega) hp (by omega)], E⟩
    refine Sq.pickF .plain rfl rfl rfl ?_
    refine Sq.move .plain rfl rfl ?_
    refine Sq.move (.met rfl rfl rfl) rfl rfl ?_
    refine Sq.gtr (.met rfl rfl rfl) rfl rfl rfl ?_
    refine Sq.part (fun c10 => ?_) (fun c10 => ?_)
    · refine Sq.pickF .plain rfl rfl rfl ?_
      refine Sq.move .plain rfl rfl ?_
      refine Sq.off rfl rfl rfl rfl rfl rfl ?_
      refine Sq.off rfl rfl rfl rfl rfl rfl ?_
      refine Sq.off rfl rfl rfl rfl rfl rfl ?_
      refine Sq.off rfl rfl rfl rfl rfl rfl ?_
      refine Sq.off rfl rfl rfl rfl rfl rfl ?_
      refine Sq.pickT .plain rfl rfl rfl ?_
      refine Sq.nil ?_
      refine Eq.next ?_
      refine Cq.thn rfl ?_
      refine Cq.seq ?_
      refine Cq.region ?_
      refine Sq.assign .plain rfl rfl ?_
      refine Sq.nil ?_
      refine Eq.next ?_
      refine Cq.ret ?_
      refine Eq.pastRet ?_
      refine Eq.ret1 rfl rfl ?_
      exact ⟨by first | rw [validA_al (by omega)] | rw [validA_n (by omega)] | rw [validA_acc (by omega)] | rw [validA_row (k := k.toNat) (by omega) hrow] | rw [validA_good (k := k.toNat) (by omega) (by omega) (by omega) hp (by omega)], E⟩
    refine Sq.pickF .plain rfl rfl rfl ?_
    refine Sq.move .plain rfl rfl ?_
    refine Sq.fieldAddr fld26_2 (.met rfl rfl rfl) rfl rfl ?_
    refine Sq.loadB one24 (.met rfl rfl rfl) rfl rfl hB4 rfl ?_
    refine Sq.lenBools (hac.ext E) (.met rfl rfl rfl) rfl und24 rfl ?_
    refine Sq.move (.met rfl rfl rfl) rfl rfl ?_
    refine Sq.neq (.met rfl rfl rfl) rfl rfl rfl ?_
    refine Sq.part (fun c11 => ?_) (fun c11 => ?_)
    · refine Sq.pickF .plain rfl rfl rfl ?_
      refine Sq.nil ?_
      refine Eq.next ?_
      refine Cq.thn rfl ?_
      refine Cq.seq ?_
      refine Cq.region ?_
      refine Sq.assign .plain rfl rfl ?_
      refine Sq.nil ?_
      refine Eq.next ?_
      refine Cq.ret ?_
      refine Eq.pastRet ?_
      refine Eq.ret1 rfl rfl ?_
      exact ⟨by first | rw [validA_al (by omega)] | rw [validA_n (by omega)] | rw [validA_acc (by omega)] | rw [validA_row (k := k.toNat) (by omega) hrow] | rw [validA_good (k := k.toNat) (by omega) (by omega) (by omega) hp (by omega)], E⟩
    refine Sq.pickF .plain rfl rfl rfl ?_
    refine Sq.nil ?_
    refine Eq.next ?_
    refine Cq.els rfl ?_
    refine Cq.skip ?_
    refine Eq.next ?_
    refine Cq.seq ?_
    refine Cq.seq ?_
    refine Cq.region ?_
    refine Sq.assign .plain rfl rfl ?_
    refine Sq.nil ?_
    refine Eq.next ?_
    refine Cq.block ?_
    refine Cq.loop (fun nn w ls => ∃ (k : Int), ls = [(1, Value.pointer (some ⟨b1, 0, none⟩)), (3, Value.int .i64 (List.length a.next : Int)), (4, Value.int .i64 k)] ∧ (0 ≤ k ∧ k ≤ a.next.length) ∧ (a.next.take k.toNat).all (rowOk (letters a.al).length a.next.length) = true ∧ Ext w0 w ∧ Blk w b1 26 [Value.int .i64 a.al, nx, ac] ∧ nn = ((a.next.length : Int) - k).toNat) _ _ ⟨0, rfl, by omega, rfl, E, hB4, rfl⟩ (.cons rfl (.cons rfl (.cons rfl (.nil)))) ?_
    rintro nn wl1 ls ⟨k, rfl, hk, hp, E, hB4, rfl⟩
    have hs12 := Below.size E
    refine Cq.seq ?_
    refine Cq.seq ?_
    refine Cq.region ?_
    refine Sq.move .plain rfl rfl ?_
    refine Sq.move .plain rfl rfl ?_
    refine Sq.lss .plain rfl rfl rfl ?_
    refine Sq.part (fun c13 => ?_) (fun c13 => ?_)
    · refine Sq.nil ?_
      refine Eq.next ?_
      refine Cq.thn rfl ?_
      refine Cq.skip ?_
      refine Eq.next ?_
      refine Cq.seq ?_
      refine Cq.block ?_
      refine Cq.seq ?_
      refine Cq.draw 12 none mixed (fun w14 e15 => ?_)
      have hs16 := Below.size e15
      replace E := E.trans e15
      replace hB4 := hB4.ext e15
      have E_w14 := E
      have hB4_w14 := hB4
      refine Gq.st 0 rfl (by kernel_rfl) rfl .plain rfl (fun _ _ _ h => h) (World.grownBy.refl w14 _) (fun w' x => Still.fieldAddr fld26_1 rfl) ?_
      refine Gq.st 1 rfl (by kernel_rfl) rfl .plain rfl (fun _ _ _ h => h) (World.grownBy.refl w14 _) (fun w' x => Still.loadB one23 rfl (hB4_w14.ext (Ext.of_grown x)) rfl) ?_
      refine Gq.st 2 rfl (by kernel_rfl) rfl .plain rfl (fun _ _ _ h => h) (World.grownBy.refl w14 _) (fun w' x => Still.move rfl) ?_
      obtain ⟨p17, r19, hp18_w14, hr20⟩ := Rows.at hnx (i := k) (by omega) (by omega)
      refine Gq.st 3 rfl (by kernel_rfl) rfl .plain rfl (fun _ _ _ h => h) (World.grownBy.refl w14 _) (fun w' x => Still.at' sl23 hp18_w14 rfl rfl) ?_
      refine Gq.st 4 rfl (by kernel_rfl) rfl .plain rfl (fun _ _ _ h => h) (World.grownBy.refl w14 _) (fun w' x => Still.loadA one36 rfl (hp18_w14.ext (E_w14.trans (Ext.of_grown x))).1) ?_
      refine Gq.st 5 rfl (by kernel_rfl) rfl .plain rfl (fun _ _ _ h => h) (World.grownBy.refl w14 _) (fun w' x => Still.fieldAddr fld26_0 rfl) ?_
      refine Gq.st 6 rfl (by kernel_rfl) rfl .plain rfl (fun _ _ _ h => h) (World.grownBy.refl w14 _) (fun w' x => Still.loadB one3 rfl (hB4_w14.ext (Ext.of_grown x)) rfl) ?_
      refine Gq.st 9 rfl (by kernel_rfl) rfl .plain rfl (fun _ _ _ h => h) (World.grownBy.refl w14 _) (fun w' x => Still.move rfl) ?_
      refine Gq.one 7 rfl (by kernel_rfl) ?_
      have hd25 := hB4.lt
      refine Sq.call fn23 .plain rfl rfl (l1Letters_c a.al (by omega) _) ?_
      rintro v21 w22 ⟨hl24, e23⟩
      have hs26 := Below.size E
      have hs27 := Below.size e23
      replace E := E.trans e23
      replace hB4 := hB4.ext e23
      refine Sq.nil ?_
      refine Eq.goes (fun _ => (grown_trans (World.grownBy.refl w14 _) (Ext.to_grown e23 _))) ?_
      refine Gq.one 8 rfl (by kernel_rfl) ?_
      refine Sq.lenInts (Own.row hl24) .plain rfl und36 rfl ?_
      refine Sq.nil ?_
      refine Eq.goes (fun _ => (grown_trans (World.grownBy.refl w14 _) (Ext.to_grown e23 _))) ?_
      refine Gq.one 10 rfl (by kernel_rfl) ?_
      refine Sq.call fn22 .plain rfl rfl (l3Row_c _ _ _ (hr20.ext E) _ _ (by have := letters_len6 a.al; omega)) ?_
      rintro _ _ ⟨rfl, rfl⟩
      refine Sq.partB (fun hrow => ?_) (fun hrow => ?_)
      · refine Sq.nil ?_
        refine Eq.goes (fun _ => (grown_trans (World.grownBy.refl w14 _) (Ext.to_grown e23 _))) ?_
        refine Gq.st 11 rfl (by kernel_rfl) rfl .plain rfl (fun _ _ _ h => h) (grown_trans (World.grownBy.refl w14 _) (Ext.to_grown e23 _)) (fun w' x => Still.notT rfl) ?_
        refine Gq.done (by kernel_rfl) ?_
        refine Eq.next ?_
        refine Cq.els rfl ?_
        refine Cq.skip ?_
        refine Eq.end ?_
        refine Eq.next ?_
        refine Cq.region ?_
        refine Sq.move .plain rfl rfl ?_
        refine Sq.add .plain rfl rfl rfl (by omega) ?_
        refine Sq.assign .plain rfl rfl ?_
        refine Sq.nil ?_
        have e1 := toNat_succ hk.1
        refine Eq.round _ _ ⟨k + 1, rfl, by omega, by rw [e1]; exact all_snoc (d := []) hp (by omega) hrow, E, hB4, rfl⟩ (by omega) (.cons rfl (.cons rfl (.cons rfl (.nil))))
      refine Sq.nil ?_
      refine Eq.goes (fun _ => (grown_trans (World.grownBy.refl w14 _) (Ext.to_grown e23 _))) ?_
      refine Gq.st 11 rfl (by kernel_rfl) rfl .plain rfl (fun _ _ _ h => h) (grown_trans (World.grownBy.refl w14 _) (Ext.to_grown e23 _)) (fun w' x => Still.notF rfl) ?_
      refine Gq.done (by kernel_rfl) ?_
      refine Eq.next ?_
      refine Cq.thn rfl ?_
      refine Cq.seq ?_
      refine Cq.region ?_
      refine Sq.assign .plain rfl rfl ?_
      refine Sq.nil ?_
      refine Eq.next ?_
      refine Cq.ret ?_
      refine Eq.outRet ?_
      refine Eq.pastRet ?_
      refine Eq.pastRet ?_
      refine Eq.outRet ?_
      refine Eq.pastRet ?_
      refine Eq.ret1 rfl rfl ?_
      exact ⟨by first | rw [validA_al (by omega)] | rw [validA_n (by omega)] | rw [validA_acc (by omega)] | rw [validA_row (k := k.toNat) (by omega) hrow] | rw [validA_good (k := k.toNat) (by omega) (by omega) (by omega) hp (by omega)], E⟩
    refine Sq.nil ?_
    refine Eq.next ?_
    refine Cq.els rfl ?_
    refine Cq.exit ?_
    refine Eq.past ?_
    refine Eq.past ?_
    refine Eq.hit ?_
    refine Eq.next ?_
    refine Cq.seq ?_
    refine Cq.region ?_
    refine Sq.assign .plain rfl rfl ?_
    refine Sq.nil ?_
    refine Eq.next ?_
    refine Cq.ret ?_
    refine Eq.ret1 rfl rfl ?_
    exact ⟨by first | rw [validA_al (by omega)] | rw [validA_n (by omega)] | rw [validA_acc (by omega)] | rw [validA_row (k := k.toNat) (by omega) hrow] | rw [validA_good (k := k.toNat) (by omega) (by omega) (by omega) hp (by omega)], E⟩
  refine Sq.notF .plain rfl rfl ?_
  refine Sq.move .plain rfl rfl ?_
  refine Sq.off rfl rfl rfl rfl rfl rfl ?_
  refine Sq.off rfl rfl rfl rfl rfl rfl ?_
  refine Sq.pickT .plain rfl rfl rfl ?_
  refine Sq.move .plain rfl rfl ?_
  refine Sq.off rfl rfl rfl rfl rfl rfl ?_
  refine Sq.off rfl rfl rfl rfl rfl rfl ?_
  refine Sq.pickT .plain rfl rfl rfl ?_
  refine Sq.move .plain rfl rfl ?_
  refine Sq.off rfl rfl rfl rfl rfl rfl ?_
  refine Sq.off rfl rfl rfl rfl rfl rfl ?_
  refine Sq.off rfl rfl rfl rfl rfl rfl ?_
  refine Sq.off rfl rfl rfl rfl rfl rfl ?_
  refine Sq.off rfl rfl rfl rfl rfl rfl ?_
  refine Sq.pickT .plain rfl rfl rfl ?_
  refine Sq.nil ?_
  refine Eq.next ?_
  refine Cq.thn rfl ?_
  refine Cq.seq ?_
  refine Cq.region ?_
  refine Sq.assign .plain rfl rfl ?_
  refine Sq.nil ?_
  refine Eq.next ?_
  refine Cq.ret ?_
  refine Eq.pastRet ?_
  refine Eq.ret1 rfl rfl ?_
  exact ⟨by first | rw [validA_al (by omega)] | rw [validA_n (by omega)] | rw [validA_acc (by omega)] | rw [validA_row (k := k.toNat) (by omega) hrow] | rw [validA_good (k := k.toNat) (by omega) (by omega) (by omega) hp (by omega)], E⟩
set_option maxRecDepth 100000 in
theorem valid_c (w0 : World) (a : A) (nx ac : Value) (hnx : Rows w0 36 3 nx a.next) (hac : Bools w0 4 ac a.acc) : Ret Tryz.prog 6 #[Value.agg #[Value.int .i64 a.al, nx, ac]] w0 (fun v w => v = .bool (validA a) ∧ Ext w0 w) := by
  have E := Ext.refl w0
  refine Ret.of (args := [Value.agg #[Value.int .i64 a.al, nx, ac]]) Tryz.func6 rfl rfl rfl ?_
  rintro _ rfl
  show Cq _ _ _ _ [(0, Value.agg #[Value.int .i64 a.al, nx, ac])] _
  refine Cq.seq ?_
  refine Cq.region ?_
  refine Sq.box .plain rfl rfl (fun b1 w2 e3 hB4 hlo5 => ?_)
  have hd6 := Nat.le_trans (Below.size E) hlo5
  have hs7 := Below.size e3
  replace E := E.trans e3
  refine Sq.assign .plain rfl rfl ?_
  refine Sq.nil ?_
  refine Eq.next ?_
  refine Cq.seq ?_
  refine Cq.seq ?_
  refine Cq.region ?_
  refine Sq.fieldAddr fld26_0 .plain rfl rfl ?_
  refine Sq.loadB one3 .plain rfl rfl hB4 rfl ?_
  refine Sq.call fn17 .plain rfl rfl (isAlphabet_c _ _) ?_
  rintro _ _ ⟨rfl, rfl⟩
  refine Sq.part (fun c8 => ?_) (fun c8 => ?_)
  · refine Sq.notT .plain rfl rfl ?_
    refine Sq.move .plain rfl rfl ?_
    refine Sq.fieldAddr fld26_1 (.met rfl rfl rfl) rfl rfl ?_
    refine Sq.loadB one23 (.met rfl rfl rfl) rfl rfl hB4 rfl ?_
    refine Sq.lenRows (hnx.ext E) (.met rfl rfl rfl) rfl und23 rfl ?_
    refine Sq.lss (.met rfl rfl rfl) rfl rfl rfl ?_
    refine Sq.part (fun c9 => ?_) (fun c9 => ?_)
    · refine Sq.pickF .plain rfl rfl rfl ?_
      refine Sq.move .plain rfl rfl ?_
      refine Sq.off rfl rfl rfl rfl rfl rfl ?_
      refine Sq.off rfl rfl rfl rfl rfl rfl ?_
      refine Sq.off rfl rfl rfl rfl rfl rfl ?_
      refine Sq.off rfl rfl rfl rfl rfl rfl ?_
      refine Sq.pickT .plain rfl rfl rfl ?_
      refine Sq.move .plain rfl rfl ?_
      refine Sq.off rfl rfl rfl rfl rfl rfl ?_
      refine Sq.off rfl rfl rfl rfl rfl rfl ?_
      refine Sq.off rfl rfl rfl rfl rfl rfl ?_
      refine Sq.off rfl rfl rfl rfl rfl rfl ?_
      refine Sq.off rfl rfl rfl rfl rfl rfl ?_
      refine Sq.off rfl rfl rfl rfl rfl rfl ?_
      refine Sq.off rfl rfl rfl rfl rfl rfl ?_
      refine Sq.pickT .plain rfl rfl rfl ?_
      refine Sq.nil ?_
      refine Eq.next ?_
      refine Cq.thn rfl ?_
      refine Cq.seq ?_
      refine Cq.region ?_
      refine Sq.assign .plain rfl rfl ?_
      refine Sq.nil ?_
      refine Eq.next ?_
      refine Cq.ret ?_
      refine Eq.pastRet ?_
      refine Eq.ret1 rfl rfl ?_
      exact ⟨by first | rw [validA_al (by omega)] | rw [validA_n (by omega)] | rw [validA_acc (by omega)] | rw [validA_row (k := k.toNat) (by omega) (rowOk_len (by omega))] | rw [validA_row (k := k.toNat) (by omega) (rowOk_bad (by omega) (k := j.toNat) (by omega) (inB_F (by omega)))] | rw [validA_good (k := k.toNat) (by omega) (by omega) (by omega) hp (by omega)], E⟩
    refine Sq.pickF .plain rfl rfl rfl ?_
    refine Sq.move .plain rfl rfl ?_
    refine Sq.fieldAddr fld26_1 (.met rfl rfl rfl) rfl rfl ?_
    refine Sq.loadB one23 (.met rfl rfl rfl) rfl rfl hB4 rfl ?_
    refine Sq.lenRows (hnx.ext E) (.met rfl rfl rfl) rfl und23 rfl ?_
    refine Sq.gtr (.met rfl rfl rfl) rfl rfl rfl ?_
    refine Sq.part (fun c10 => ?_) (fun c10 => ?_)
    · refine Sq.pickF .plain rfl rfl rfl ?_
      refine Sq.move .plain rfl rfl ?_
      refine Sq.off rfl rfl rfl rfl rfl rfl ?_
      refine Sq.off rfl rfl rfl rfl rfl rfl ?_
      refine Sq.off rfl rfl rfl rfl rfl rfl ?_
      refine Sq.off rfl rfl rfl rfl rfl rfl ?_
      refine Sq.off rfl rfl rfl rfl rfl rfl ?_
      refine Sq.off rfl rfl rfl rfl rfl rfl ?_
      refine Sq.off rfl rfl rfl rfl rfl rfl ?_
      refine Sq.pickT .plain rfl rfl rfl ?_
      refine Sq.nil ?_
      refine Eq.next ?_
      refine Cq.thn rfl ?_
      refine Cq.seq ?_
      refine Cq.region ?_
      refine Sq.assign .plain rfl rfl ?_
      refine Sq.nil ?_
      refine Eq.next ?_
      refine Cq.ret ?_
      refine Eq.pastRet ?_
      refine Eq.ret1 rfl rfl ?_
      exact ⟨by first | rw [validA_al (by omega)] | rw [validA_n (by omega)] | rw [validA_acc (by omega)] | rw [validA_row (k := k.toNat) (by omega) (rowOk_len (by omega))] | rw [validA_row (k := k.toNat) (by omega) (rowOk_bad (by omega) (k := j.toNat) (by omega) (inB_F (by omega)))] | rw [validA_good (k := k.toNat) (by omega) (by omega) (by omega) hp (by omega)], E⟩
    refine Sq.pickF .plain rfl rfl rfl ?_
    refine Sq.move .plain rfl rfl ?_
    refine Sq.fieldAddr fld26_2 (.met rfl rfl rfl) rfl rfl ?_
    refine Sq.loadB one24 (.met rfl rfl rfl) rfl rfl hB4 rfl ?_
    refine Sq.lenBools (hac.ext E) (.met rfl rfl rfl) rfl und24 rfl ?_
    refine Sq.fieldAddr fld26_1 (.met rfl rfl rfl) rfl rfl ?_
    refine Sq.loadB one23 (.met rfl rfl rfl) rfl rfl hB4 rfl ?_
    refine Sq.lenRows (hnx.ext E) (.met rfl rfl rfl) rfl und23 rfl ?_
    refine Sq.neq (.met rfl rfl rfl) rfl rfl rfl ?_
    refine Sq.part (fun c11 => ?_) (fun c11 => ?_)
    · refine Sq.pickF .plain rfl rfl rfl ?_
      refine Sq.nil ?_
      refine Eq.next ?_
      refine Cq.thn rfl ?_
      refine Cq.seq ?_
      refine Cq.region ?_
      refine Sq.assign .plain rfl rfl ?_
      refine Sq.nil ?_
      refine Eq.next ?_
      refine Cq.ret ?_
      refine Eq.pastRet ?_
      refine Eq.ret1 rfl rfl ?_
      exact ⟨by first | rw [validA_al (by omega)] | rw [validA_n (by omega)] | rw [validA_acc (by omega)] | rw [validA_row (k := k.toNat) (by omega) (rowOk_len (by omega))] | rw [validA_row (k := k.toNat) (by omega) (rowOk_bad (by omega) (k := j.toNat) (by omega) (inB_F (by omega)))] | rw [validA_good (k := k.toNat) (by omega) (by omega) (by omega) hp (by omega)], E⟩
    refine Sq.pickF .plain rfl rfl rfl ?_
    refine Sq.nil ?_
    refine Eq.next ?_
    refine Cq.els rfl ?_
    refine Cq.skip ?_
    refine Eq.next ?_
    refine Cq.seq ?_
    refine Cq.region ?_
    refine Sq.fieldAddr fld26_0 .plain rfl rfl ?_
    refine Sq.loadB one3 .plain rfl rfl hB4 rfl ?_
    have hd16 := hB4.lt
    refine Sq.call fn18 .plain rfl rfl (lettersOf_c a.al (by omega) _) ?_
    rintro v12 w13 ⟨hl15, e14⟩
    have hs17 := Below.size E
    have hs18 := Below.size e14
    replace E := E.trans e14
    replace hB4 := hB4.ext e14
    refine Sq.lenInts (Own.row hl15) .plain rfl und36 rfl ?_
    refine Sq.assign .plain rfl rfl ?_
    refine Sq.nil ?_
    refine Eq.next ?_
    refine Cq.seq ?_
    refine Cq.seq ?_
    refine Cq.region ?_
    refine Sq.fieldAddr fld26_1 .plain rfl rfl ?_
    refine Sq.loadB one23 .plain rfl rfl hB4 rfl ?_
    refine Sq.lenRows (hnx.ext E) .plain rfl und23 rfl ?_
    refine Sq.move .plain rfl rfl ?_
    refine Sq.nil ?_
    refine Eq.next ?_
    refine Cq.block ?_
    refine Cq.loop (fun nn w ls => ∃ (k : Int), ls = [(1, Value.pointer (some ⟨b1, 0, none⟩)), (3, Value.int .i64 ((List.length (letters a.al) : Int))), (38, nx), (39, Value.int .i64 (List.length a.next : Int)), (40, Value.int .i64 k)] ∧ (0 ≤ k ∧ k ≤ a.next.length) ∧ (a.next.take k.toNat).all (rowOk (letters a.al).length a.next.length) = true ∧ Ext w0 w ∧ Blk w b1 26 [Value.int .i64 a.al, nx, ac] ∧ nn = ((a.next.length : Int) - k).toNat) _ _ ⟨0, rfl, by omega, rfl, E, hB4, rfl⟩ (.cons rfl (.cons rfl (.cons rfl (.cons rfl (.cons rfl (.nil)))))) ?_
    rintro nn wl1 ls ⟨k, rfl, hk, hp, E, hB4, rfl⟩
    have hs19 := Below.size E
    refine Cq.seq ?_
    refine Cq.region ?_
    refine Sq.lss .plain rfl rfl rfl ?_
    refine Sq.part (fun c20 => ?_) (fun c20 => ?_)
    · refine Sq.nil ?_
      refine Eq.next ?_
      refine Cq.seq ?_
      refine Cq.thn rfl ?_
      refine Cq.skip ?_
      refine Eq.next ?_
      refine Cq.seq ?_
      refine Cq.block ?_
      refine Cq.seq ?_
      refine Cq.region ?_
      refine Sq.idxRows sl23 one36 (hnx.ext E) .plain rfl rfl rfl .plain rfl rfl (by omega) (by omega) (fun r21 hr22 => ?_)
      refine Sq.assign .plain rfl rfl ?_
      refine Sq.nil ?_
      refine Eq.next ?_
      refine Cq.seq ?_
      refine Cq.seq ?_
      refine Cq.region ?_
      refine Sq.move .plain rfl rfl ?_
      refine Sq.lenInts hr22 .plain rfl und36 rfl ?_
      refine Sq.move .plain rfl rfl ?_
      refine Sq.neq .plain rfl rfl rfl ?_
      refine Sq.part (fun c23 => ?_) (fun c23 => ?_)
      · refine Sq.nil ?_
        refine Eq.next ?_
        refine Cq.thn rfl ?_
        refine Cq.seq ?_
        refine Cq.region ?_
        refine Sq.assign .plain rfl rfl ?_
        refine Sq.nil ?_
        refine Eq.next ?_
        refine Cq.ret ?_
        refine Eq.pastRet ?_
        refine Eq.outRet ?_
        refine Eq.pastRet ?_
        refine Eq.pastRet ?_
        refine Eq.outRet ?_
        refine Eq.pastRet ?_
        refine Eq.ret1 rfl rfl ?_
        exact ⟨by first | rw [validA_al (by omega)] | rw [validA_n (by omega)] | rw [validA_acc (by omega)] | rw [validA_row (k := k.toNat) (by omega) (rowOk_len (by omega))] | rw [validA_row (k := k.toNat) (by omega) (rowOk_bad (by omega) (k := j.toNat) (by omega) (inB_F (by omega)))] | rw [validA_good (k := k.toNat) (by omega) (by omega) (by omega) hp (by omega)], E⟩
      refine Sq.nil ?_
      refine Eq.next ?_
      refine Cq.els rfl ?_
      refine Cq.skip ?_
      refine Eq.next ?_
      refine Cq.seq ?_
      refine Cq.region ?_
      refine Sq.move .plain rfl rfl ?_
      refine Sq.lenInts hr22 .plain rfl und36 rfl ?_
      refine Sq.move .plain rfl rfl ?_
      refine Sq.nil ?_
      refine Eq.next ?_
      refine Cq.block ?_
      refine Cq.loop (fun nn w ls => ∃ (j : Int), ls = [(1, Value.pointer (some ⟨b1, 0, none⟩)), (3, Value.int .i64 ((List.length (letters a.al) : Int))), (38, nx), (39, Value.int .i64 (List.length a.next : Int)), (40, Value.int .i64 k), (48, r21), (49, Value.int .i64 ((List.length (a.next.getD k.toNat []) : Int))), (50, Value.int .i64 j)] ∧ (0 ≤ j ∧ j ≤ (a.next.getD k.toNat []).length) ∧ ((a.next.getD k.toNat []).take j.toNat).all (inB a.next.length) = true ∧ Ext w0 w ∧ Blk w b1 26 [Value.int .i64 a.al, nx, ac] ∧ Ints w 3 r21 (a.next.getD k.toNat []) ∧ nn = (((a.next.getD k.toNat []).length : Int) - j).toNat) _ _ ⟨0, rfl, by omega, rfl, E, hB4, hr22, rfl⟩ (.cons rfl (.cons rfl (.cons rfl (.cons rfl (.cons rfl (.cons rfl (.cons rfl (.cons rfl (.nil))))))))) ?_
      rintro nn wl2 ls ⟨j, rfl, hj, hq, E, hB4, hr22, rfl⟩
      have hs24 := Below.size E
      have hl6 := letters_len6 a.al
      refine Cq.seq ?_
      refine Cq.region ?_
      refine Sq.lss .plain rfl rfl rfl ?_
      refine Sq.part (fun c25 => ?_) (fun c25 => ?_)
      · refine Sq.nil ?_
        refine Eq.next ?_
        refine Cq.seq ?_
        refine Cq.thn rfl ?_
        refine Cq.skip ?_
        refine Eq.next ?_
        refine Cq.seq ?_
        refine Cq.block ?_
        refine Cq.seq ?_
        refine Cq.region ?_
        refine Sq.idxInts sl36 one3 hr22 .plain rfl rfl rfl .plain rfl rfl (by omega) (by omega) ?_
        refine Sq.assign .plain rfl rfl ?_
        refine Sq.nil ?_
        refine Eq.next ?_
        refine Cq.seq ?_
        refine Cq.region ?_
        refine Sq.move .plain rfl rfl ?_
        refine Sq.lss .plain rfl rfl rfl ?_
        refine Sq.part (fun c26 => ?_) (fun c26 => ?_)
        · refine Sq.move .plain rfl rfl ?_
          refine Sq.off rfl rfl rfl rfl rfl rfl ?_
          refine Sq.off rfl rfl rfl rfl rfl rfl ?_
          refine Sq.off rfl rfl rfl rfl rfl rfl ?_
          refine Sq.off rfl rfl rfl rfl rfl rfl ?_
          refine Sq.off rfl rfl rfl rfl rfl rfl ?_
          refine Sq.pickT .plain rfl rfl rfl ?_
          refine Sq.nil ?_
          refine Eq.next ?_
          refine Cq.thn rfl ?_
          refine Cq.seq ?_
          refine Cq.region ?_
          refine Sq.assign .plain rfl rfl ?_
          refine Sq.nil ?_
          refine Eq.next ?_
          refine Cq.ret ?_
          refine Eq.outRet ?_
          refine Eq.pastRet ?_
          refine Eq.pastRet ?_
          refine Eq.outRet ?_
          refine Eq.outRet ?_
          refine Eq.pastRet ?_
          refine Eq.pastRet ?_
          refine Eq.outRet ?_
          refine Eq.pastRet ?_
          refine Eq.ret1 rfl rfl ?_
          exact ⟨by first | rw [validA_al (by omega)] | rw [validA_n (by omega)] | rw [validA_acc (by omega)] | rw [validA_row (k := k.toNat) (by omega) (rowOk_len (by omega))] | rw [validA_row (k := k.toNat) (by omega) (rowOk_bad (by omega) (k := j.toNat) (by omega) (inB_F (by omega)))] | rw [validA_good (k := k.toNat) (by omega) (by omega) (by omega) hp (by omega)], E⟩
        refine Sq.move .plain rfl rfl ?_
        refine Sq.move (.met rfl rfl rfl) rfl rfl ?_
        refine Sq.fieldAddr fld26_1 (.met rfl rfl rfl) rfl rfl ?_
        refine Sq.loadB one23 (.met rfl rfl rfl) rfl rfl hB4 rfl ?_
        refine Sq.lenRows (hnx.ext E) (.met rfl rfl rfl) rfl und23 rfl ?_
        refine Sq.geq (.met rfl rfl rfl) rfl rfl rfl ?_
        refine Sq.part (fun c27 => ?_) (fun c27 => ?_)
        · refine Sq.pickF .plain rfl rfl rfl ?_
          refine Sq.nil ?_
          refine Eq.next ?_
          refine Cq.thn rfl ?_
          refine Cq.seq ?_
          refine Cq.region ?_
          refine Sq.assign .plain rfl rfl ?_
          refine Sq.nil ?_
          refine Eq.next ?_
          refine Cq.ret ?_
          refine Eq.outRet ?_
          refine Eq.pastRet ?_
          refine Eq.pastRet ?_
          refine Eq.outRet ?_
          refine Eq.outRet ?_
          refine Eq.pastRet ?_
          refine Eq.pastRet ?_
          refine Eq.outRet ?_
          refine Eq.pastRet ?_
          refine Eq.ret1 rfl rfl ?_
          exact ⟨by first | rw [validA_al (by omega)] | rw [validA_n (by omega)] | rw [validA_acc (by omega)] | rw [validA_row (k := k.toNat) (by omega) (rowOk_len (by omega))] | rw [validA_row (k := k.toNat) (by omega) (rowOk_bad (by omega) (k := j.toNat) (by omega) (inB_F (by omega)))] | rw [validA_good (k := k.toNat) (by omega) (by omega) (by omega) hp (by omega)], E⟩
        refine Sq.pickF .plain rfl rfl rfl ?_
        refine Sq.nil ?_
        refine Eq.next ?_
        refine Cq.els rfl ?_
        refine Cq.skip ?_
        refine Eq.end ?_
        refine Eq.next ?_
        refine Cq.region ?_
        refine Sq.add .plain rfl rfl rfl (by omega) ?_
        refine Sq.move .plain rfl rfl ?_
        refine Sq.nil ?_
        have e2 := toNat_succ hj.1
        refine Eq.round _ _ ⟨j + 1, rfl, by omega, by rw [e2]; exact all_snoc (d := 0) hq (by omega) (inB_T (by omega)), E, hB4, hr22, rfl⟩ (by omega) (.cons rfl (.cons rfl (.cons rfl (.cons rfl (.cons rfl (.cons rfl (.cons rfl (.cons rfl (.nil)))))))))
      refine Sq.nil ?_
      refine Eq.next ?_
      refine Cq.seq ?_
      refine Cq.els rfl ?_
      refine Cq.exit ?_
      refine Eq.past ?_
      refine Eq.past ?_
      refine Eq.hit ?_
      refine Eq.end ?_
      refine Eq.next ?_
      refine Cq.region ?_
      refine Sq.add .plain rfl rfl rfl (by omega) ?_
      refine Sq.move .plain rfl rfl ?_
      refine Sq.nil ?_
      have e1 := toNat_succ hk.1
      refine Eq.round _ _ ⟨k + 1, rfl, by omega, by rw [e1]; exact all_snoc (d := []) hp (by omega) (rowOk_good (by omega) hq (by omega)), E, hB4, rfl⟩ (by omega) (.cons rfl (.cons rfl (.cons rfl (.cons rfl (.cons rfl (.nil))))))
    refine Sq.nil ?_
    refine Eq.next ?_
    refine Cq.seq ?_
    refine Cq.els rfl ?_
    refine Cq.exit ?_
    refine Eq.past ?_
    refine Eq.past ?_
    refine Eq.hit ?_
    refine Eq.next ?_
    refine Cq.seq ?_
    refine Cq.region ?_
    refine Sq.assign .plain rfl rfl ?_
    refine Sq.nil ?_
    refine Eq.next ?_
    refine Cq.ret ?_
    refine Eq.ret1 rfl rfl ?_
    exact ⟨by first | rw [validA_al (by omega)] | rw [validA_n (by omega)] | rw [validA_acc (by omega)] | rw [validA_row (k := k.toNat) (by omega) (rowOk_len (by omega))] | rw [validA_row (k := k.toNat) (by omega) (rowOk_bad (by omega) (k := j.toNat) (by omega) (inB_F (by omega)))] | rw [validA_good (k := k.toNat) (by omega) (by omega) (by omega) hp (by omega)], E⟩
  refine Sq.notF .plain rfl rfl ?_
  refine Sq.move .plain rfl rfl ?_
  refine Sq.off rfl rfl rfl rfl rfl rfl ?_
  refine Sq.off rfl rfl rfl rfl rfl rfl ?_
  refine Sq.off rfl rfl rfl rfl rfl rfl ?_
  refine Sq.off rfl rfl rfl rfl rfl rfl ?_
  refine Sq.pickT .plain rfl rfl rfl ?_
  refine Sq.move .plain rfl rfl ?_
  refine Sq.off rfl rfl rfl rfl rfl rfl ?_
  refine Sq.off rfl rfl rfl rfl rfl rfl ?_
  refine Sq.off rfl rfl rfl rfl rfl rfl ?_
  refine Sq.off rfl rfl rfl rfl rfl rfl ?_
  refine Sq.pickT .plain rfl rfl rfl ?_
  refine Sq.move .plain rfl rfl ?_
  refine Sq.off rfl rfl rfl rfl rfl rfl ?_
  refine Sq.off rfl rfl rfl rfl rfl rfl ?_
  refine Sq.off rfl rfl rfl rfl rfl rfl ?_
  refine Sq.off rfl rfl rfl rfl rfl rfl ?_
  refine Sq.off rfl rfl rfl rfl rfl rfl ?_
  refine Sq.off rfl rfl rfl rfl rfl rfl ?_
  refine Sq.off rfl rfl rfl rfl rfl rfl ?_
  refine Sq.pickT .plain rfl rfl rfl ?_
  refine Sq.nil ?_
  refine Eq.next ?_
  refine Cq.thn rfl ?_
  refine Cq.seq ?_
  refine Cq.region ?_
  refine Sq.assign .plain rfl rfl ?_
  refine Sq.nil ?_
  refine Eq.next ?_
  refine Cq.ret ?_
  refine Eq.pastRet ?_
  refine Eq.ret1 rfl rfl ?_
  exact ⟨by first | rw [validA_al (by omega)] | rw [validA_n (by omega)] | rw [validA_acc (by omega)] | rw [validA_row (k := k.toNat) (by omega) (rowOk_len (by omega))] | rw [validA_row (k := k.toNat) (by omega) (rowOk_bad (by omega) (k := j.toNat) (by omega) (inB_F (by omega)))] | rw [validA_good (k := k.toNat) (by omega) (by omega) (by omega) hp (by omega)], E⟩
set_option maxRecDepth 100000 in
theorem agInts_c (w0 : World) (xs ys : List Int) (r q : Value) (hr : Ints w0 3 r xs) (hq : Ints w0 3 q ys) (hx : xs.length ≤ 1000000000) : Ret Tryz.prog 28 #[r, q] w0 (fun v w => v = .bool (xs == ys) ∧ Ext w0 w) := by
  have E := Ext.refl w0
  refine Ret.of (args := [r, q]) Tryz.func28 rfl rfl rfl ?_
  rintro _ rfl
  show Cq _ _ _ _ [(0, r), (1, q)] _
  refine Cq.seq ?_
  refine Cq.region ?_
  refine Sq.assign .plain rfl rfl ?_
  refine Sq.nil ?_
  refine Eq.next ?_
  refine Cq.seq ?_
  refine Cq.seq ?_
  refine Cq.region ?_
  refine Sq.move .plain rfl rfl ?_
  refine Sq.lenInts (hr.ext E) .plain rfl und36 rfl ?_
  refine Sq.move .plain rfl rfl ?_
  refine Sq.lenInts (hq.ext E) .plain rfl und36 rfl ?_
  refine Sq.neq .plain rfl rfl rfl ?_
  refine Sq.part (fun c1 => ?_) (fun c1 => ?_)
  · refine Sq.nil ?_
    refine Eq.next ?_
    refine Cq.thn rfl ?_
    refine Cq.seq ?_
    refine Cq.region ?_
    refine Sq.assign .plain rfl rfl ?_
    refine Sq.nil ?_
    refine Eq.next ?_
    refine Cq.ret ?_
    refine Eq.pastRet ?_
    refine Eq.ret1 rfl rfl ?_
    exact ⟨by first | rw [beq_len (by omega)] | rw [beq_at (k := k.toNat) 0 (by simpa using hne)] | rw [beq_done (k := k.toNat) hp (by omega) (by omega)], E⟩
  refine Sq.nil ?_
  refine Eq.next ?_
  refine Cq.els rfl ?_
  refine Cq.skip ?_
  refine Eq.next ?_
  refine Cq.seq ?_
  refine Cq.seq ?_
  refine Cq.region ?_
  refine Sq.assign .plain rfl rfl ?_
  refine Sq.nil ?_
  refine Eq.next ?_
  refine Cq.block ?_
  refine Cq.loop (fun nn w ls => ∃ (k : Int), ls = [(0, r), (1, q), (5, Value.int .i64 k)] ∧ xs.length = ys.length ∧ (0 ≤ k ∧ k ≤ xs.length) ∧ xs.take k.toNat = ys.take k.toNat ∧ Ext w0 w ∧ nn = ((xs.length : Int) - k).toNat) _ _ ⟨0, rfl, by omega, by omega, rfl, E, rfl⟩ (.cons rfl (.cons rfl (.cons rfl (.nil)))) ?_
  rintro nn wl1 ls ⟨k, rfl, hl, hk, hp, E, rfl⟩
  have hs2 := Below.size E
  refine Cq.seq ?_
  refine Cq.seq ?_
  refine Cq.region ?_
  refine Sq.move .plain rfl rfl ?_
  refine Sq.move .plain rfl rfl ?_
  refine Sq.lenInts (hr.ext E) .plain rfl und36 rfl ?_
  refine Sq.lss .plain rfl rfl rfl ?_
  refine Sq.part (fun c3 => ?_) (fun c3 => ?_)
  · refine Sq.nil ?_
    refine Eq.next ?_
    refine Cq.thn rfl ?_
    refine Cq.skip ?_
    refine Eq.next ?_
    refine Cq.seq ?_
    refine Cq.block ?_
    refine Cq.seq ?_
    refine Cq.draw 9 none mixed (fun w4 e5 => ?_)
    have hs6 := Below.size e5
    replace E := E.trans e5
    have E_w4 := E
    refine Gq.st 0 rfl (by kernel_rfl) rfl .plain rfl (fun _ _ _ h => h) (World.grownBy.refl w4 _) (fun w' x => Still.move rfl) ?_
    refine Gq.st 1 rfl (by kernel_rfl) rfl .plain rfl (fun _ _ _ h => h) (World.grownBy.refl w4 _) (fun w' x => Still.move rfl) ?_
    obtain ⟨p7, hp8_w4⟩ := Ints.at hr (i := k) (by omega) (by omega)
    refine Gq.st 2 rfl (by kernel_rfl) rfl .plain rfl (fun _ _ _ h => h) (World.grownBy.refl w4 _) (fun w' x => Still.at' sl36 hp8_w4 rfl rfl) ?_
    refine Gq.st 3 rfl (by kernel_rfl) rfl .plain rfl (fun _ _ _ h => h) (World.grownBy.refl w4 _) (fun w' x => Still.loadA one3 rfl (hp8_w4.ext (E_w4.trans (Ext.of_grown x))).1) ?_
    refine Gq.st 4 rfl (by kernel_rfl) rfl .plain rfl (fun _ _ _ h => h) (World.grownBy.refl w4 _) (fun w' x => Still.move rfl) ?_
    refine Gq.st 5 rfl (by kernel_rfl) rfl .plain rfl (fun _ _ _ h => h) (World.grownBy.refl w4 _) (fun w' x => Still.move rfl) ?_
    obtain ⟨p9, hp10_w4⟩ := Ints.at hq (i := k) (by omega) (by omega)
    refine Gq.st 6 rfl (by kernel_rfl) rfl .plain rfl (fun _ _ _ h => h) (World.grownBy.refl w4 _) (fun w' x => Still.at' sl36 hp10_w4 rfl rfl) ?_
    refine Gq.st 7 rfl (by kernel_rfl) rfl .plain rfl (fun _ _ _ h => h) (World.grownBy.refl w4 _) (fun w' x => Still.loadA one3 rfl (hp10_w4.ext (E_w4.trans (Ext.of_grown x))).1) ?_
    refine Gq.st 8 rfl (by kernel_rfl) rfl .plain rfl (fun _ _ _ h => h) (World.grownBy.refl w4 _) (fun w' x => Still.neq rfl rfl) ?_
    refine Gq.part (fun hne => ?_) (fun hne => ?_)
    · refine Gq.done (by kernel_rfl) ?_
      refine Eq.next ?_
      refine Cq.thn rfl ?_
      refine Cq.seq ?_
      refine Cq.region ?_
      refine Sq.assign .plain rfl rfl ?_
      refine Sq.nil ?_
      refine Eq.next ?_
      refine Cq.ret ?_
      refine Eq.outRet ?_
      refine Eq.pastRet ?_
      refine Eq.pastRet ?_
      refine Eq.outRet ?_
      refine Eq.pastRet ?_
      refine Eq.ret1 rfl rfl ?_
      exact ⟨by first | rw [beq_len (by omega)] | rw [beq_at (k := k.toNat) 0 (by simpa using hne)] | rw [beq_done (k := k.toNat) hp (by omega) (by omega)], E⟩
    refine Gq.done (by kernel_rfl) ?_
    refine Eq.next ?_
    refine Cq.els rfl ?_
    refine Cq.skip ?_
    refine Eq.end ?_
    refine Eq.next ?_
    refine Cq.region ?_
    refine Sq.move .plain rfl rfl ?_
    refine Sq.add .plain rfl rfl rfl (by omega) ?_
    refine Sq.assign .plain rfl rfl ?_
    refine Sq.nil ?_
    have e1 := toNat_succ hk.1
    refine Eq.round _ _ ⟨k + 1, rfl, hl, by omega, by rw [e1]; exact take_eq_snoc 0 hl hp (by omega) (by simpa using hne), E, rfl⟩ (by omega) (.cons rfl (.cons rfl (.cons rfl (.nil))))
  refine Sq.nil ?_
  refine Eq.next ?_
  refine Cq.els rfl ?_
  refine Cq.exit ?_
  refine Eq.past ?_
  refine Eq.past ?_
  refine Eq.hit ?_
  refine Eq.next ?_
  refine Cq.seq ?_
  refine Cq.region ?_
  refine Sq.assign .plain rfl rfl ?_
  refine Sq.nil ?_
  refine Eq.next ?_
  refine Cq.ret ?_
  refine Eq.ret1 rfl rfl ?_
  exact ⟨by first | rw [beq_len (by omega)] | rw [beq_at (k := k.toNat) 0 (by simpa using hne)] | rw [beq_done (k := k.toNat) hp (by omega) (by omega)], E⟩
set_option maxRecDepth 100000 in
theorem agBools_c (w0 : World) (xs ys : List Bool) (r q : Value) (hr : Bools w0 4 r xs) (hq : Bools w0 4 q ys) (hx : xs.length ≤ 1000000000) : Ret Tryz.prog 27 #[r, q] w0 (fun v w => v = .bool (xs == ys) ∧ Ext w0 w) := by
  have E := Ext.refl w0
  refine Ret.of (args := [r, q]) Tryz.func27 rfl rfl rfl ?_
  rintro _ rfl
  show Cq _ _ _ _ [(0, r), (1, q)] _
  refine Cq.seq ?_
  refine Cq.region ?_
  refine Sq.assign .plain rfl rfl ?_
  refine Sq.nil ?_
  refine Eq.next ?_
  refine Cq.seq ?_
  refine Cq.seq ?_
  refine Cq.region ?_
  refine Sq.move .plain rfl rfl ?_
  refine Sq.lenBools (hr.ext E) .plain rfl und24 rfl ?_
  refine Sq.move .plain rfl rfl ?_
  refine Sq.lenBools (hq.ext E) .plain rfl und24 rfl ?_
  refine Sq.neq .plain rfl rfl rfl ?_
  refine Sq.part (fun c1 => ?_) (fun c1 => ?_)
  · refine Sq.nil ?_
    refine Eq.next ?_
    refine Cq.thn rfl ?_
    refine Cq.seq ?_
    refine Cq.region ?_
    refine Sq.assign .plain rfl rfl ?_
    refine Sq.nil ?_
    refine Eq.next ?_
    refine Cq.ret ?_
    refine Eq.pastRet ?_
    refine Eq.ret1 rfl rfl ?_
    exact ⟨by first | rw [beq_len (by omega)] | rw [beq_at (k := k.toNat) false (by simpa using hne)] | rw [beq_done (k := k.toNat) hp (by omega) (by omega)], E⟩
  refine Sq.nil ?_
  refine Eq.next ?_
  refine Cq.els rfl ?_
  refine Cq.skip ?_
  refine Eq.next ?_
  refine Cq.seq ?_
  refine Cq.seq ?_
  refine Cq.region ?_
  refine Sq.assign .plain rfl rfl ?_
  refine Sq.nil ?_
  refine Eq.next ?_
  refine Cq.block ?_
  refine Cq.loop (fun nn w ls => ∃ (k : Int), ls = [(0, r), (1, q), (5, Value.int .i64 k)] ∧ xs.length = ys.length ∧ (0 ≤ k ∧ k ≤ xs.length) ∧ xs.take k.toNat = ys.take k.toNat ∧ Ext w0 w ∧ nn = ((xs.length : Int) - k).toNat) _ _ ⟨0, rfl, by omega, by omega, rfl, E, rfl⟩ (.cons rfl (.cons rfl (.cons rfl (.nil)))) ?_
  rintro nn wl1 ls ⟨k, rfl, hl, hk, hp, E, rfl⟩
  have hs2 := Below.size E
  refine Cq.seq ?_
  refine Cq.seq ?_
  refine Cq.region ?_
  refine Sq.move .plain rfl rfl ?_
  refine Sq.move .plain rfl rfl ?_
  refine Sq.lenBools (hr.ext E) .plain rfl und24 rfl ?_
  refine Sq.lss .plain rfl rfl rfl ?_
  refine Sq.part (fun c3 => ?_) (fun c3 => ?_)
  · refine Sq.nil ?_
    refine Eq.next ?_
    refine Cq.thn rfl ?_
    refine Cq.skip ?_
    refine Eq.next ?_
    refine Cq.seq ?_
    refine Cq.block ?_
    refine Cq.seq ?_
    refine Cq.draw 9 none mixed (fun w4 e5 => ?_)
    have hs6 := Below.size e5
    replace E := E.trans e5
    have E_w4 := E
    refine Gq.st 0 rfl (by kernel_rfl) rfl .plain rfl (fun _ _ _ h => h) (World.grownBy.refl w4 _) (fun w' x => Still.move rfl) ?_
    refine Gq.st 1 rfl (by kernel_rfl) rfl .plain rfl (fun _ _ _ h => h) (World.grownBy.refl w4 _) (fun w' x => Still.move rfl) ?_
    obtain ⟨p7, hp8_w4⟩ := Bools.at hr (i := k) (by omega) (by omega)
    refine Gq.st 2 rfl (by kernel_rfl) rfl .plain rfl (fun _ _ _ h => h) (World.grownBy.refl w4 _) (fun w' x => Still.at' sl24 hp8_w4 rfl rfl) ?_
    refine Gq.st 3 rfl (by kernel_rfl) rfl .plain rfl (fun _ _ _ h => h) (World.grownBy.refl w4 _) (fun w' x => Still.loadA one4 rfl (hp8_w4.ext (E_w4.trans (Ext.of_grown x))).1) ?_
    refine Gq.st 4 rfl (by kernel_rfl) rfl .plain rfl (fun _ _ _ h => h) (World.grownBy.refl w4 _) (fun w' x => Still.move rfl) ?_
    refine Gq.st 5 rfl (by kernel_rfl) rfl .plain rfl (fun _ _ _ h => h) (World.grownBy.refl w4 _) (fun w' x => Still.move rfl) ?_
    obtain ⟨p9, hp10_w4⟩ := Bools.at hq (i := k) (by omega) (by omega)
    refine Gq.st 6 rfl (by kernel_rfl) rfl .plain rfl (fun _ _ _ h => h) (World.grownBy.refl w4 _) (fun w' x => Still.at' sl24 hp10_w4 rfl rfl) ?_
    refine Gq.st 7 rfl (by kernel_rfl) rfl .plain rfl (fun _ _ _ h => h) (World.grownBy.refl w4 _) (fun w' x => Still.loadA one4 rfl (hp10_w4.ext (E_w4.trans (Ext.of_grown x))).1) ?_
    refine Gq.st 8 rfl (by kernel_rfl) rfl .plain rfl (fun _ _ _ h => h) (World.grownBy.refl w4 _) (fun w' x => Still.neqB und4 rfl rfl) ?_
    refine Gq.partB (fun hne => ?_) (fun hne => ?_)
    · refine Gq.done (by kernel_rfl) ?_
      refine Eq.next ?_
      refine Cq.thn rfl ?_
      refine Cq.seq ?_
      refine Cq.region ?_
      refine Sq.assign .plain rfl rfl ?_
      refine Sq.nil ?_
      refine Eq.next ?_
      refine Cq.ret ?_
      refine Eq.outRet ?_
      refine Eq.pastRet ?_
      refine Eq.pastRet ?_
      refine Eq.outRet ?_
      refine Eq.pastRet ?_
      refine Eq.ret1 rfl rfl ?_
      exact ⟨by first | rw [beq_len (by omega)] | rw [beq_at (k := k.toNat) false (by simpa using hne)] | rw [beq_done (k := k.toNat) hp (by omega) (by omega)], E⟩
    refine Gq.done (by kernel_rfl) ?_
    refine Eq.next ?_
    refine Cq.els rfl ?_
    refine Cq.skip ?_
    refine Eq.end ?_
    refine Eq.next ?_
    refine Cq.region ?_
    refine Sq.move .plain rfl rfl ?_
    refine Sq.add .plain rfl rfl rfl (by omega) ?_
    refine Sq.assign .plain rfl rfl ?_
    refine Sq.nil ?_
    have e1 := toNat_succ hk.1
    refine Eq.round _ _ ⟨k + 1, rfl, hl, by omega, by rw [e1]; exact take_eq_snoc false hl hp (by omega) (by simpa using hne), E, rfl⟩ (by omega) (.cons rfl (.cons rfl (.cons rfl (.nil))))
  refine Sq.nil ?_
  refine Eq.next ?_
  refine Cq.els rfl ?_
  refine Cq.exit ?_
  refine Eq.past ?_
  refine Eq.past ?_
  refine Eq.hit ?_
  refine Eq.next ?_
  refine Cq.seq ?_
  refine Cq.region ?_
  refine Sq.assign .plain rfl rfl ?_
  refine Sq.nil ?_
  refine Eq.next ?_
  refine Cq.ret ?_
  refine Eq.ret1 rfl rfl ?_
  exact ⟨by first | rw [beq_len (by omega)] | rw [beq_at (k := k.toNat) false (by simpa using hne)] | rw [beq_done (k := k.toNat) hp (by omega) (by omega)], E⟩
set_option maxRecDepth 100000 in
theorem agAutomata_c (w0 : World) (a b : A) (nx ac nx' ac' : Value) (hnx : Rows w0 36 3 nx a.next) (hac : Bools w0 4 ac a.acc) (hnx' : Rows w0 36 3 nx' b.next) (hac' : Bools w0 4 ac' b.acc) (ha : Fit a) : Ret Tryz.prog 10 #[Value.agg #[Value.int .i64 a.al, nx, ac], Value.agg #[Value.int .i64 b.al, nx', ac']] w0 (fun v w => v = .bool (eqA a b) ∧ Ext w0 w) := by
  have E := Ext.refl w0
  refine Ret.of (args := [Value.agg #[Value.int .i64 a.al, nx, ac], Value.agg #[Value.int .i64 b.al, nx', ac']]) Tryz.func10 rfl rfl rfl ?_
  rintro _ rfl
  show Cq _ _ _ _ [(0, Value.agg #[Value.int .i64 a.al, nx, ac]), (1, Value.agg #[Value.int .i64 b.al, nx', ac'])] _
  refine Cq.seq ?_
  refine Cq.region ?_
  refine Sq.box .plain rfl rfl (fun b1 w2 e3 hB4 hlo5 => ?_)
  have hd6 := Nat.le_trans (Below.size E) hlo5
  have hs7 := Below.size e3
  replace E := E.trans e3
  refine Sq.box .plain rfl rfl (fun b8 w9 e10 hB11 hlo12 => ?_)
  have hd13 := Nat.le_trans (Below.size E) hlo12
  have hd14 := Nat.lt_of_lt_of_le hB4.lt hlo12
  have hs15 := Below.size e10
  replace E := E.trans e10
  replace hB4 := hB4.ext e10
  refine Sq.assign .plain rfl rfl ?_
  refine Sq.nil ?_
  refine Eq.next ?_
  refine Cq.seq ?_
  refine Cq.seq ?_
  refine Cq.region ?_
  refine Sq.fieldAddr fld26_0 .plain rfl rfl ?_
  refine Sq.loadB one3 .plain rfl rfl hB4 rfl ?_
  refine Sq.fieldAddr fld26_0 .plain rfl rfl ?_
  refine Sq.loadB one3 .plain rfl rfl hB11 rfl ?_
  refine Sq.neq .plain rfl rfl rfl ?_
  refine Sq.part (fun c16 => ?_) (fun c16 => ?_)
  · refine Sq.move .plain rfl rfl ?_
    refine Sq.off rfl rfl rfl rfl rfl rfl ?_
    refine Sq.off rfl rfl rfl rfl rfl rfl ?_
    refine Sq.off rfl rfl rfl rfl rfl rfl ?_
    refine Sq.off rfl rfl rfl rfl rfl rfl ?_
    refine Sq.off rfl rfl rfl rfl rfl rfl ?_
    refine Sq.off rfl rfl rfl rfl rfl rfl ?_
    refine Sq.off rfl rfl rfl rfl rfl rfl ?_
    refine Sq.pickT .plain rfl rfl rfl ?_
    refine Sq.move .plain rfl rfl ?_
    refine Sq.off rfl rfl rfl rfl rfl rfl ?_
    refine Sq.off rfl rfl rfl rfl rfl rfl ?_
    refine Sq.off rfl rfl rfl rfl rfl rfl ?_
    refine Sq.off rfl rfl rfl rfl rfl rfl ?_
    refine Sq.off rfl rfl rfl rfl rfl rfl ?_
    refine Sq.off rfl rfl rfl rfl rfl rfl ?_
    refine Sq.pickT .plain rfl rfl rfl ?_
    refine Sq.nil ?_
    refine Eq.next ?_
    refine Cq.thn rfl ?_
    refine Cq.seq ?_
    refine Cq.region ?_
    refine Sq.assign .plain rfl rfl ?_
    refine Sq.nil ?_
    refine Eq.next ?_
    refine Cq.ret ?_
    refine Eq.pastRet ?_
    refine Eq.ret1 rfl rfl ?_
    exact ⟨by first | rw [eqA_al (by omega)] | rw [eqA_len (by omega)] | rw [eqA_acc hac2] | rw [eqA_row (k := k.toNat) (by simpa using hrow)] | rw [eqA_good (k := k.toNat) hl.1 hl.2.1 hl.2.2 hp (by omega)], E⟩
  refine Sq.move .plain rfl rfl ?_
  refine Sq.fieldAddr fld26_1 (.met rfl rfl rfl) rfl rfl ?_
  refine Sq.loadB one23 (.met rfl rfl rfl) rfl rfl hB4 rfl ?_
  refine Sq.lenRows (hnx.ext E) (.met rfl rfl rfl) rfl und23 rfl ?_
  refine Sq.fieldAddr fld26_1 (.met rfl rfl rfl) rfl rfl ?_
  refine Sq.loadB one23 (.met rfl rfl rfl) rfl rfl hB11 rfl ?_
  refine Sq.lenRows (hnx'.ext E) (.met rfl rfl rfl) rfl und23 rfl ?_
  refine Sq.neq (.met rfl rfl rfl) rfl rfl rfl ?_
  refine Sq.part (fun c17 => ?_) (fun c17 => ?_)
  · refine Sq.pickF .plain rfl rfl rfl ?_
    refine Sq.move .plain rfl rfl ?_
    refine Sq.off rfl rfl rfl rfl rfl rfl ?_
    refine Sq.off rfl rfl rfl rfl rfl rfl ?_
    refine Sq.off rfl rfl rfl rfl rfl rfl ?_
    refine Sq.off rfl rfl rfl rfl rfl rfl ?_
    refine Sq.off rfl rfl rfl rfl rfl rfl ?_
    refine Sq.off rfl rfl rfl rfl rfl rfl ?_
    refine Sq.pickT .plain rfl rfl rfl ?_
    refine Sq.nil ?_
    refine Eq.next ?_
    refine Cq.thn rfl ?_
    refine Cq.seq ?_
    refine Cq.region ?_
    refine Sq.assign .plain rfl rfl ?_
    refine Sq.nil ?_
    refine Eq.next ?_
    refine Cq.ret ?_
    refine Eq.pastRet ?_
    refine Eq.ret1 rfl rfl ?_
    exact ⟨by first | rw [eqA_al (by omega)] | rw [eqA_len (by omega)] | rw [eqA_acc hac2] | rw [eqA_row (k := k.toNat) (by simpa using hrow)] | rw [eqA_good (k := k.toNat) hl.1 hl.2.1 hl.2.2 hp (by omega)], E⟩
  refine Sq.pickF .plain rfl rfl rfl ?_
  refine Sq.move .plain rfl rfl ?_
  refine Sq.fieldAddr fld26_2 (.met rfl rfl rfl) rfl rfl ?_
  refine Sq.loadB one24 (.met rfl rfl rfl) rfl rfl hB4 rfl ?_
  refine Sq.fieldAddr fld26_2 (.met rfl rfl rfl) rfl rfl ?_
  refine Sq.loadB one24 (.met rfl rfl rfl) rfl rfl hB11 rfl ?_
  have hd21 := hB4.lt
  have hd22 := hB11.lt
  refine Sq.call fn27 (.met rfl rfl rfl) rfl rfl (agBools_c _ _ _ _ _ (hac.ext E) (hac'.ext E) (by first | exact ha.acc | exact hro)) ?_
  rintro _ w19 ⟨rfl, e20⟩
  have hs23 := Below.size E
  have hs24 := Below.size e20
  replace E := E.trans e20
  replace hB4 := hB4.ext e20
  replace hB11 := hB11.ext e20
  refine Sq.partB (fun hac2 => ?_) (fun hac2 => ?_)
  · refine Sq.notT (.met rfl rfl rfl) rfl rfl ?_
    refine Sq.pickF .plain rfl rfl rfl ?_
    refine Sq.nil ?_
    refine Eq.next ?_
    refine Cq.els rfl ?_
    refine Cq.skip ?_
    refine Eq.next ?_
    refine Cq.seq ?_
    refine Cq.seq ?_
    refine Cq.region ?_
    refine Sq.assign .plain rfl rfl ?_
    refine Sq.nil ?_
    refine Eq.next ?_
    refine Cq.block ?_
    refine Cq.loop (fun nn w ls => ∃ (k : Int), ls = [(2, Value.pointer (some ⟨b1, 0, none⟩)), (3, Value.pointer (some ⟨b8, 0, none⟩)), (5, Value.int .i64 k)] ∧ (a.al = b.al ∧ a.next.length = b.next.length ∧ (a.acc == b.acc) = true) ∧ (0 ≤ k ∧ k ≤ a.next.length) ∧ a.next.take k.toNat = b.next.take k.toNat ∧ Ext w0 w ∧ Blk w b1 26 [Value.int .i64 a.al, nx, ac] ∧ Blk w b8 26 [Value.int .i64 b.al, nx', ac'] ∧ nn = ((a.next.length : Int) - k).toNat) _ _ ⟨0, rfl, ⟨by omega, by omega, hac2⟩, by omega, rfl, E, hB4, hB11, rfl⟩ (.cons rfl (.cons rfl (.cons rfl (.nil)))) ?_
    rintro nn wl1 ls ⟨k, rfl, hl, hk, hp, E, hB4, hB11, rfl⟩
    have hs25 := Below.size E
    have hf := ha.2.1
    have hro := Fit.row ha (k := k.toNat)
    refine Cq.seq ?_
    refine Cq.seq ?_
    refine Cq.region ?_
    refine Sq.move .plain rfl rfl ?_
    refine Sq.fieldAddr fld26_1 .plain rfl rfl ?_
    refine Sq.loadB one23 .plain rfl rfl hB4 rfl ?_
    refine Sq.lenRows (hnx.ext E) .plain rfl und23 rfl ?_
    refine Sq.lss .plain rfl rfl rfl ?_
    refine Sq.part (fun c26 => ?_) (fun c26 => ?_)
    · refine Sq.nil ?_
      refine Eq.next ?_
      refine Cq.thn rfl ?_
      refine Cq.skip ?_
      refine Eq.next ?_
      refine Cq.seq ?_
      refine Cq.block ?_
      refine Cq.seq ?_
      refine Cq.draw 12 none mixed (fun w27 e28 => ?_)
      have hs29 := Below.size e28
      replace E := E.trans e28
      replace hB4 := hB4.ext e28
      replace hB11 := hB11.ext e28
      have E_w27 := E
      have hB4_w27 := hB4
      have hB11_w27 := hB11
      refine Gq.st 0 rfl (by kernel_rfl) rfl .plain rfl (fun _ _ _ h => h) (World.grownBy.refl w27 _) (fun w' x => Still.fieldAddr fld26_1 rfl) ?_
      refine Gq.st 1 rfl (by kernel_rfl) rfl .plain rfl (fun _ _ _ h => h) (World.grownBy.refl w27 _) (fun w' x => Still.loadB one23 rfl (hB4_w27.ext (Ext.of_grown x)) rfl) ?_
      refine Gq.st 2 rfl (by kernel_rfl) rfl .plain rfl (fun _ _ _ h => h) (World.grownBy.refl w27 _) (fun w' x => Still.move rfl) ?_
      obtain ⟨p30, r32, hp31_w27, hr33⟩ := Rows.at hnx (i := k) (by omega) (by omega)
      refine Gq.st 3 rfl (by kernel_rfl) rfl .plain rfl (fun _ _ _ h => h) (World.grownBy.refl w27 _) (fun w' x => Still.at' sl23 hp31_w27 rfl rfl) ?_
      refine Gq.st 4 rfl (by kernel_rfl) rfl .plain rfl (fun _ _ _ h => h) (World.grownBy.refl w27 _) (fun w' x => Still.loadA one36 rfl (hp31_w27.ext (E_w27.trans (Ext.of_grown x))).1) ?_
      refine Gq.st 5 rfl (by kernel_rfl) rfl .plain rfl (fun _ _ _ h => h) (World.grownBy.refl w27 _) (fun w' x => Still.fieldAddr fld26_1 rfl) ?_
      refine Gq.st 6 rfl (by kernel_rfl) rfl .plain rfl (fun _ _ _ h => h) (World.grownBy.refl w27 _) (fun w' x => Still.loadB one23 rfl (hB11_w27.ext (Ext.of_grown x)) rfl) ?_
      refine Gq.st 7 rfl (by kernel_rfl) rfl .plain rfl (fun _ _ _ h => h) (World.grownBy.refl w27 _) (fun w' x => Still.move rfl) ?_
      obtain ⟨p34, r36, hp35_w27, hr37⟩ := Rows.at hnx' (i := k) (by omega) (by omega)
      refine Gq.st 8 rfl (by kernel_rfl) rfl .plain rfl (fun _ _ _ h => h) (World.grownBy.refl w27 _) (fun w' x => Still.at' sl23 hp35_w27 rfl rfl) ?_
      refine Gq.st 9 rfl (by kernel_rfl) rfl .plain rfl (fun _ _ _ h => h) (World.grownBy.refl w27 _) (fun w' x => Still.loadA one36 rfl (hp35_w27.ext (E_w27.trans (Ext.of_grown x))).1) ?_
      refine Gq.one 10 rfl (by kernel_rfl) ?_
      have hd41 := hB4.lt
      have hd42 := hB11.lt
      refine Sq.call fn28 .plain rfl rfl (agInts_c _ _ _ _ _ (hr33.ext E) (hr37.ext E) (by first | exact ha.acc | exact hro)) ?_
      rintro _ w39 ⟨rfl, e40⟩
      have hs43 := Below.size E
      have hs44 := Below.size e40
      replace E := E.trans e40
      replace hB4 := hB4.ext e40
      replace hB11 := hB11.ext e40
      refine Sq.partB (fun hrow => ?_) (fun hrow => ?_)
      · refine Sq.nil ?_
        refine Eq.goes (fun _ => (grown_trans (World.grownBy.refl w27 _) (Ext.to_grown e40 _))) ?_
        refine Gq.st 11 rfl (by kernel_rfl) rfl .plain rfl (fun _ _ _ h => h) (grown_trans (World.grownBy.refl w27 _) (Ext.to_grown e40 _)) (fun w' x => Still.notT rfl) ?_
        refine Gq.done (by kernel_rfl) ?_
        refine Eq.next ?_
        refine Cq.els rfl ?_
        refine Cq.skip ?_
        refine Eq.end ?_
        refine Eq.next ?_
        refine Cq.region ?_
        refine Sq.move .plain rfl rfl ?_
        refine Sq.add .plain rfl rfl rfl (by omega) ?_
        refine Sq.assign .plain rfl rfl ?_
        refine Sq.nil ?_
        have e1 := toNat_succ hk.1
        refine Eq.round _ _ ⟨k + 1, rfl, hl, by omega, by rw [e1]; exact take_eq_snoc [] hl.2.1 hp (by omega) (by simpa using hrow), E, hB4, hB11, rfl⟩ (by omega) (.cons rfl (.cons rfl (.cons rfl (.nil))))
      refine Sq.nil ?_
      refine Eq.goes (fun _ => (grown_trans (World.grownBy.refl w27 _) (Ext.to_grown e40 _))) ?_
      refine Gq.st 11 rfl (by kernel_rfl) rfl .plain rfl (fun _ _ _ h => h) (grown_trans (World.grownBy.refl w27 _) (Ext.to_grown e40 _)) (fun w' x => Still.notF rfl) ?_
      refine Gq.done (by kernel_rfl) ?_
      refine Eq.next ?_
      refine Cq.thn rfl ?_
      refine Cq.seq ?_
      refine Cq.region ?_
      refine Sq.assign .plain rfl rfl ?_
      refine Sq.nil ?_
      refine Eq.next ?_
      refine Cq.ret ?_
      refine Eq.outRet ?_
      refine Eq.pastRet ?_
      refine Eq.pastRet ?_
      refine Eq.outRet ?_
      refine Eq.pastRet ?_
      refine Eq.ret1 rfl rfl ?_
      exact ⟨by first | rw [eqA_al (by omega)] | rw [eqA_len (by omega)] | rw [eqA_acc hac2] | rw [eqA_row (k := k.toNat) (by simpa using hrow)] | rw [eqA_good (k := k.toNat) hl.1 hl.2.1 hl.2.2 hp (by omega)], E⟩
    refine Sq.nil ?_
    refine Eq.next ?_
    refine Cq.els rfl ?_
    refine Cq.exit ?_
    refine Eq.past ?_
    refine Eq.past ?_
    refine Eq.hit ?_
    refine Eq.next ?_
    refine Cq.seq ?_
    refine Cq.region ?_
    refine Sq.assign .plain rfl rfl ?_
    refine Sq.nil ?_
    refine Eq.next ?_
    refine Cq.ret ?_
    refine Eq.ret1 rfl rfl ?_
    exact ⟨by first | rw [eqA_al (by omega)] | rw [eqA_len (by omega)] | rw [eqA_acc hac2] | rw [eqA_row (k := k.toNat) (by simpa using hrow)] | rw [eqA_good (k := k.toNat) hl.1 hl.2.1 hl.2.2 hp (by omega)], E⟩
  refine Sq.notF (.met rfl rfl rfl) rfl rfl ?_
  refine Sq.pickF .plain rfl rfl rfl ?_
  refine Sq.nil ?_
  refine Eq.next ?_
  refine Cq.thn rfl ?_
  refine Cq.seq ?_
  refine Cq.region ?_
  refine Sq.assign .plain rfl rfl ?_
  refine Sq.nil ?_
  refine Eq.next ?_
  refine Cq.ret ?_
  refine Eq.pastRet ?_
  refine Eq.ret1 rfl rfl ?_
  exact ⟨by first | rw [eqA_al (by omega)] | rw [eqA_len (by omega)] | rw [eqA_acc hac2] | rw [eqA_row (k := k.toNat) (by simpa using hrow)] | rw [eqA_good (k := k.toNat) hl.1 hl.2.1 hl.2.2 hp (by omega)], E⟩
end Go.Proofs.YtnckpafknojdhaaGreatDoor
set_option linter.unusedSimpArgs false
set_option linter.unusedVariables false
namespace Go.Proofs.YtnckpafknojdhaaGreatDoor
open Go.RowKit
set_option maxRecDepth 100000 in
theorem letterAt_c (s : ByteArray) (i : Int) (hi : 0 ≤ i ∧ i < s.size) (w0 : World) : Ret Tryz.prog 47 #[Value.string s, Value.int .i64 i] w0 (fun v w => v = .int .i64 (clip ((lts s).getD i.toNat 0)) ∧ w0 = w) := by
  refine Ret.of (args := [Value.string s, Value.int .i64 i]) Tryz.func47 rfl rfl rfl ?_
  rintro _ rfl
  show Cq _ _ _ _ [(0, Value.string s), (1, Value.int .i64 i)] _
  refine Cq.seq ?_
  refine Cq.region ?_
  refine Sq.assign .plain rfl rfl ?_
  refine Sq.nil ?_
  refine Eq.next ?_
  refine Cq.seq ?_
  refine Cq.region ?_
  refine Sq.move .plain rfl rfl ?_
  refine Sq.move .plain rfl rfl ?_
  refine Sq.idxStr .plain rfl und9 rfl rfl (by omega) (str_at (by omega)) ?_
  refine Sq.conv conv5_3 .plain rfl rfl (u8_ok _) ?_
  refine Sq.sub .plain rfl rfl rfl (by have := u8_le (s.data.toList.getD i.toNat 0); omega) ?_
  refine Sq.assign .plain rfl rfl ?_
  refine Sq.nil ?_
  refine Eq.next ?_
  refine Cq.seq ?_
  refine Cq.seq ?_
  refine Cq.region ?_
  refine Sq.move .plain rfl rfl ?_
  refine Sq.lss .plain rfl rfl rfl ?_
  refine Sq.part (fun c2 => ?_) (fun c2 => ?_)
  · refine Sq.move .plain rfl rfl ?_
    refine Sq.off rfl rfl rfl rfl rfl rfl ?_
    refine Sq.off rfl rfl rfl rfl rfl rfl ?_
    refine Sq.pickT .plain rfl rfl rfl ?_
    refine Sq.nil ?_
    refine Eq.next ?_
    refine Cq.thn rfl ?_
    refine Cq.seq ?_
    refine Cq.region ?_
    refine Sq.assign .plain rfl rfl ?_
    refine Sq.nil ?_
    refine Eq.next ?_
    refine Cq.ret ?_
    refine Eq.pastRet ?_
    refine Eq.ret1 rfl rfl ?_
    exact ⟨by rw [lts_at (by omega)]; first | rw [clip_in (by omega)] | rw [clip_out (by omega)], rfl⟩
  refine Sq.move .plain rfl rfl ?_
  refine Sq.move (.met rfl rfl rfl) rfl rfl ?_
  refine Sq.geq (.met rfl rfl rfl) rfl rfl rfl ?_
  refine Sq.part (fun c3 => ?_) (fun c3 => ?_)
  · refine Sq.pickF .plain rfl rfl rfl ?_
    refine Sq.nil ?_
    refine Eq.next ?_
    refine Cq.thn rfl ?_
    refine Cq.seq ?_
    refine Cq.region ?_
    refine Sq.assign .plain rfl rfl ?_
    refine Sq.nil ?_
    refine Eq.next ?_
    refine Cq.ret ?_
    refine Eq.pastRet ?_
    refine Eq.ret1 rfl rfl ?_
    exact ⟨by rw [lts_at (by omega)]; first | rw [clip_in (by omega)] | rw [clip_out (by omega)], rfl⟩
  refine Sq.pickF .plain rfl rfl rfl ?_
  refine Sq.nil ?_
  refine Eq.next ?_
  refine Cq.els rfl ?_
  refine Cq.skip ?_
  refine Eq.next ?_
  refine Cq.seq ?_
  refine Cq.region ?_
  refine Sq.move .plain rfl rfl ?_
  refine Sq.assign .plain rfl rfl ?_
  refine Sq.nil ?_
  refine Eq.next ?_
  refine Cq.ret ?_
  refine Eq.ret1 rfl rfl ?_
  exact ⟨by rw [lts_at (by omega)]; first | rw [clip_in (by omega)] | rw [clip_out (by omega)], rfl⟩
end Go.Proofs.YtnckpafknojdhaaGreatDoor
set_option linter.unusedSimpArgs false
set_option linter.unusedVariables false
namespace Go.Proofs.YtnckpafknojdhaaGreatDoor
open Go.RowKit
set_option maxRecDepth 100000 in
theorem letterByte_c (x : Int) (hx : 0 ≤ x ∧ x ≤ 100) (w0 : World) : Ret Tryz.prog 38 #[Value.int .i64 x] w0 (fun v w => v = .int .u8 (97 + x) ∧ w0 = w) := by
  refine Ret.of (args := [Value.int .i64 x]) Tryz.func38 rfl rfl rfl ?_
  rintro _ rfl
  show Cq _ _ _ _ [(0, Value.int .i64 x)] _
  refine Cq.seq ?_
  refine Cq.region ?_
  refine Sq.assign .plain rfl rfl ?_
  refine Sq.nil ?_
  refine Eq.next ?_
  refine Cq.seq ?_
  refine Cq.region ?_
  refine Sq.move .plain rfl rfl ?_
  refine Sq.add .plain rfl rfl rfl (by omega) ?_
  refine Sq.conv8 conv3_5 .plain rfl rfl (by omega) ?_
  refine Sq.assign .plain rfl rfl ?_
  refine Sq.nil ?_
  refine Eq.next ?_
  refine Cq.ret ?_
  refine Eq.ret1 rfl rfl ?_
  exact ⟨rfl, rfl⟩
end Go.Proofs.YtnckpafknojdhaaGreatDoor
set_option linter.unusedSimpArgs false
set_option linter.unusedVariables false
namespace Go.Proofs.YtnckpafknojdhaaGreatDoor
open Go.RowKit
set_option maxRecDepth 100000 in
theorem fmtAlI_c (al : Int) (w0 : World) : Ret Tryz.prog 14 #[Value.int .i64 al] w0 (fun v w => v = .string (fmtAl al) ∧ Ext w0 w) := by
  have E := Ext.refl w0
  refine Ret.of (args := [Value.int .i64 al]) Tryz.func14 rfl rfl rfl ?_
  rintro _ rfl
  show Cq _ _ _ _ [(0, Value.int .i64 al)] _
  refine Cq.seq ?_
  refine Cq.region ?_
  refine Sq.assign .plain rfl rfl ?_
  refine Sq.nil ?_
  refine Eq.next ?_
  refine Cq.seq ?_
  refine Cq.seq ?_
  refine Cq.region ?_
  refine Sq.move .plain rfl rfl ?_
  refine Sq.call fn17 .plain rfl rfl (isAlphabet_c _ _) ?_
  rintro _ _ ⟨rfl, rfl⟩
  refine Sq.part (fun hal => ?_) (fun hal => ?_)
  · refine Sq.notT .plain rfl rfl ?_
    refine Sq.nil ?_
    refine Eq.next ?_
    refine Cq.els rfl ?_
    refine Cq.skip ?_
    refine Eq.next ?_
    refine Cq.seq ?_
    refine Cq.seq ?_
    refine Cq.region ?_
    refine Sq.move .plain rfl rfl ?_
    refine Sq.eql .plain rfl rfl rfl ?_
    refine Sq.part (fun hz => ?_) (fun hz => ?_)
    · refine Sq.nil ?_
      refine Eq.next ?_
      refine Cq.thn rfl ?_
      refine Cq.seq ?_
      refine Cq.region ?_
      refine Sq.assign .plain rfl rfl ?_
      refine Sq.nil ?_
      refine Eq.next ?_
      refine Cq.ret ?_
      refine Eq.pastRet ?_
      refine Eq.ret1 rfl rfl ?_
      exact ⟨by first | rw [fmtAl_bad (by omega)] | rw [fmtAl_zero (by omega)], E⟩
    refine Sq.nil ?_
    refine Eq.next ?_
    refine Cq.els rfl ?_
    refine Cq.skip ?_
    refine Eq.next ?_
    refine Cq.seq ?_
    refine Cq.region ?_
    refine Sq.assign .plain rfl rfl ?_
    refine Sq.nil ?_
    refine Eq.next ?_
    refine Cq.seq ?_
    refine Cq.seq ?_
    refine Cq.region ?_
    refine Sq.move .plain rfl rfl ?_
    refine Sq.call fn18 .plain rfl rfl (lettersOf_c al (by omega) _) ?_
    rintro v1 w2 ⟨hl4, e3⟩
    have hs5 := Below.size E
    have hs6 := Below.size e3
    replace E := E.trans e3
    refine Sq.lenInts (Own.row hl4) .plain rfl und36 rfl ?_
    refine Sq.move .plain rfl rfl ?_
    refine Sq.nil ?_
    refine Eq.next ?_
    refine Cq.block ?_
    refine Cq.loop (fun nn w ls => ∃ (k : Int), ∃ (t : List Int), ∃ (bv : Value), ls = [(3, bv), (12, v1), (13, Value.int .i64 ((List.length (letters al) : Int))), (14, Value.int .i64 k)] ∧ (0 ≤ k ∧ k ≤ (letters al).length) ∧ t = ((letters al).take k.toNat).reverse ∧ Own w w0.heap.size 5 bv ((txb t.reverse).map fun b => Value.int .u8 (b.toNat : Int)) ∧ Ext w0 w ∧ Own w w0.heap.size 3 v1 ((letters al).map (Value.int .i64)) ∧ nn = ((letters al).length - k).toNat) _ _ ⟨0, [], _, rfl, by omega, rfl, Own.nil _ _ _, E, hl4, rfl⟩ (.cons rfl (.cons rfl (.cons rfl (.cons rfl (.nil))))) ?_
    rintro nn wl1 ls ⟨k, t, bv, rfl, hk, ht, ho, E, hl4, rfl⟩
    have hs7 := Below.size E
    have hlet := letters_len6 al
    have hlt := letters_at al (k := k.toNat)
    have htl : t.length ≤ 6 := by rw [ht, List.length_reverse, List.length_take]; omega
    have htx : (txb t.reverse).length = t.length := by simp [txb]
    refine Cq.seq ?_
    refine Cq.region ?_
    refine Sq.lss .plain rfl rfl rfl ?_
    refine Sq.part (fun c8 => ?_) (fun c8 => ?_)
    · refine Sq.nil ?_
      refine Eq.next ?_
      refine Cq.seq ?_
      refine Cq.thn rfl ?_
      refine Cq.skip ?_
      refine Eq.next ?_
      refine Cq.seq ?_
      refine Cq.block ?_
      refine Cq.seq ?_
      refine Cq.region ?_
      refine Sq.idxInts sl36 one3 (Own.row hl4) .plain rfl rfl rfl .plain rfl rfl (by omega) (by omega) ?_
      refine Sq.assign .plain rfl rfl ?_
      refine Sq.nil ?_
      refine Eq.next ?_
      refine Cq.region ?_
      refine Sq.move .plain rfl rfl ?_
      refine Sq.move .plain rfl rfl ?_
      refine Sq.call fn38 .plain rfl rfl (letterByte_c ((letters al).getD k.toNat 0) (by (have := hlt (by omega); omega)) _) ?_
      rintro _ _ ⟨rfl, rfl⟩
      refine Sq.app1 sl22 ho (by omega) (by first | omega | (rw [List.length_map]; omega)) .plain rfl rfl rfl rfl rfl rfl rfl (fun v9 w10 ho12 g11 _ => ?_)
      have hs13 := g11.size
      replace E := E.owned ho g11 (by omega)
      replace hl4 := hl4.owned ho g11 (by decide)
      refine Sq.assign .plain rfl rfl ?_
      refine Sq.nil ?_
      refine Eq.end ?_
      refine Eq.next ?_
      refine Cq.region ?_
      refine Sq.add .plain rfl rfl rfl (by omega) ?_
      refine Sq.move .plain rfl rfl ?_
      refine Sq.nil ?_
      have e1 := toNat_succ hk.1
      refine Eq.round _ _ ⟨k + 1, (letters al).getD k.toNat 0 :: t, _, rfl, by omega, by rw [e1, take_snoc 0 (by omega), List.reverse_append, ← ht]; rfl, Own.snocT ho12 (by have := hlt (by omega); omega), E, hl4, rfl⟩ (by omega) (.cons rfl (.cons rfl (.cons rfl (.cons rfl (.nil)))))
    refine Sq.nil ?_
    refine Eq.next ?_
    refine Cq.seq ?_
    refine Cq.els rfl ?_
    refine Cq.exit ?_
    refine Eq.past ?_
    refine Eq.past ?_
    refine Eq.hit ?_
    refine Eq.next ?_
    refine Cq.seq ?_
    refine Cq.region ?_
    refine Sq.move .plain rfl rfl ?_
    refine Sq.val .plain rfl rfl (Still.text und22 und8_22 und9 (Own.row ho) rfl) ?_
    refine Sq.assign .plain rfl rfl ?_
    refine Sq.nil ?_
    refine Eq.next ?_
    refine Cq.ret ?_
    refine Eq.ret1 rfl rfl ?_
    exact ⟨congrArg Value.string (by rw [ht, List.reverse_reverse, List.take_of_length_le (by omega), fmtAl_txt (by omega) (by omega)]; rfl), E⟩
  refine Sq.notF .plain rfl rfl ?_
  refine Sq.nil ?_
  refine Eq.next ?_
  refine Cq.thn rfl ?_
  refine Cq.seq ?_
  refine Cq.region ?_
  refine Sq.assign .plain rfl rfl ?_
  refine Sq.nil ?_
  refine Eq.next ?_
  refine Cq.ret ?_
  refine Eq.pastRet ?_
  refine Eq.ret1 rfl rfl ?_
  exact ⟨by first | rw [fmtAl_bad (by omega)] | rw [fmtAl_zero (by omega)], E⟩
end Go.Proofs.YtnckpafknojdhaaGreatDoor
set_option linter.unusedSimpArgs false
set_option linter.unusedVariables false
namespace Go.Proofs.YtnckpafknojdhaaGreatDoor
open Go.RowKit
set_option maxRecDepth 100000 in
theorem parseAlI_c (s : ByteArray) (hs : s.size ≤ 2000000) (w0 : World) : Ret Tryz.prog 25 #[Value.string s] w0 (fun v w => (∃ n ok, v = .tuple #[.int .i64 n, .bool ok] ∧ (0 ≤ n ∧ n ≤ 63) ∧ AlP s ok n) ∧ Ext w0 w) := by
  have E := Ext.refl w0
  refine Ret.of (args := [Value.string s]) Tryz.func25 rfl rfl rfl ?_
  rintro _ rfl
  show Cq _ _ _ _ [(0, Value.string s)] _
  refine Cq.seq ?_
  refine Cq.region ?_
  refine Sq.assign .plain rfl rfl ?_
  refine Sq.assign .plain rfl rfl ?_
  refine Sq.nil ?_
  refine Eq.next ?_
  refine Cq.seq ?_
  refine Cq.region ?_
  refine Sq.assign .plain rfl rfl ?_
  refine Sq.nil ?_
  refine Eq.next ?_
  refine Cq.seq ?_
  refine Cq.seq ?_
  refine Cq.region ?_
  refine Sq.move .plain rfl rfl ?_
  refine Sq.lenStr .plain rfl und9 rfl ?_
  refine Sq.move .plain rfl rfl ?_
  refine Sq.nil ?_
  refine Eq.next ?_
  refine Cq.block ?_
  refine Cq.loop (fun nn w ls => ∃ (i : Int), ∃ (m : Int), ls = [(0, Value.string s), (4, Value.int .i64 m), (8, Value.int .i64 (ByteArray.size s : Int)), (9, Value.int .i64 i)] ∧ (0 ≤ i ∧ i ≤ s.size) ∧ m = alTo s i.toNat ∧ Ext w0 w ∧ nn = ((s.size : Int) - i).toNat) _ _ ⟨0, 0, rfl, by omega, rfl, E, rfl⟩ (.cons rfl (.cons rfl (.cons rfl (.cons rfl (.nil))))) ?_
  rintro nn wl1 ls ⟨i, m, rfl, hi, hm, E, rfl⟩
  have hs1 := Below.size E
  have hmi := alTo_in s i.toNat
  rw [← hm] at hmi
  have hcb := clip_bd ((lts s).getD i.toNat 0)
  refine Cq.seq ?_
  refine Cq.region ?_
  refine Sq.lss .plain rfl rfl rfl ?_
  refine Sq.part (fun c2 => ?_) (fun c2 => ?_)
  · refine Sq.nil ?_
    refine Eq.next ?_
    refine Cq.seq ?_
    refine Cq.thn rfl ?_
    refine Cq.skip ?_
    refine Eq.next ?_
    refine Cq.seq ?_
    refine Cq.block ?_
    refine Cq.seq ?_
    refine Cq.region ?_
    refine Sq.move .plain rfl rfl ?_
    refine Sq.assign .plain rfl rfl ?_
    refine Sq.nil ?_
    refine Eq.next ?_
    refine Cq.seq ?_
    refine Cq.region ?_
    refine Sq.move .plain rfl rfl ?_
    refine Sq.move .plain rfl rfl ?_
    refine Sq.call fn47 .plain rfl rfl (letterAt_c s i (by omega) _) ?_
    rintro _ _ ⟨rfl, rfl⟩
    refine Sq.assign .plain rfl rfl ?_
    refine Sq.nil ?_
    refine Eq.next ?_
    refine Cq.seq ?_
    refine Cq.region ?_
    refine Sq.move .plain rfl rfl ?_
    refine Sq.geq .plain rfl rfl rfl ?_
    refine Sq.part (fun hge => ?_) (fun hge => ?_)
    · refine Sq.nil ?_
      refine Eq.next ?_
      refine Cq.thn rfl ?_
      refine Cq.region ?_
      refine Sq.move .plain rfl rfl ?_
      refine Sq.move .plain rfl rfl ?_
      refine Sq.shl .plain rfl rfl rfl (by have hcb := clip_bd ((lts s).getD i.toNat 0); omega) ?_
      refine Sq.or .plain rfl rfl rfl (by have hb := bit_in (x := clip ((lts s).getD i.toNat 0)) (by omega); rw [bit] at hb; omega) ?_
      refine Sq.assign .plain rfl rfl ?_
      refine Sq.nil ?_
      refine Eq.end ?_
      refine Eq.next ?_
      refine Cq.region ?_
      refine Sq.add .plain rfl rfl rfl (by omega) ?_
      refine Sq.move .plain rfl rfl ?_
      refine Sq.nil ?_
      have e1 := toNat_succ hi.1
      refine Eq.round _ _ ⟨i + 1, _, rfl, by omega, by rw [e1, alTo_succ (by omega), ← hm, stepAl, if_pos (by omega), bit, Int.one_mul]; rfl, E, rfl⟩ (by omega) (.cons rfl (.cons rfl (.cons rfl (.cons rfl (.nil)))))
    refine Sq.nil ?_
    refine Eq.next ?_
    refine Cq.els rfl ?_
    refine Cq.skip ?_
    refine Eq.end ?_
    refine Eq.next ?_
    refine Cq.region ?_
    refine Sq.add .plain rfl rfl rfl (by omega) ?_
    refine Sq.move .plain rfl rfl ?_
    refine Sq.nil ?_
    have e1 := toNat_succ hi.1
    refine Eq.round _ _ ⟨i + 1, _, rfl, by omega, by rw [e1, alTo_succ (by omega), ← hm, stepAl, if_neg (by omega)], E, rfl⟩ (by omega) (.cons rfl (.cons rfl (.cons rfl (.cons rfl (.nil)))))
  refine Sq.nil ?_
  refine Eq.next ?_
  refine Cq.seq ?_
  refine Cq.els rfl ?_
  refine Cq.exit ?_
  refine Eq.past ?_
  refine Eq.past ?_
  refine Eq.hit ?_
  refine Eq.next ?_
  refine Cq.seq ?_
  refine Cq.seq ?_
  refine Cq.region ?_
  refine Sq.move .plain rfl rfl ?_
  refine Sq.call fn14 .plain rfl rfl (fmtAlI_c m _) ?_
  rintro _ w4 ⟨rfl, e5⟩
  have hs6 := Below.size E
  have hs7 := Below.size e5
  replace E := E.trans e5
  refine Sq.move .plain rfl rfl ?_
  refine Sq.neqS .plain rfl rfl rfl ?_
  refine Sq.part (fun hne => ?_) (fun hne => ?_)
  · refine Sq.nil ?_
    refine Eq.next ?_
    refine Cq.thn rfl ?_
    refine Cq.seq ?_
    refine Cq.region ?_
    refine Sq.assign .plain rfl rfl ?_
    refine Sq.assign .plain rfl rfl ?_
    refine Sq.nil ?_
    refine Eq.next ?_
    refine Cq.ret ?_
    refine Eq.pastRet ?_
    refine Eq.ret2 rfl rfl rfl ?_
    have hmo : m = alOf s := by rw [hm, show i.toNat = s.size by omega]; rfl
    subst hmo
    exact ⟨⟨_, _, rfl, by omega, AlP.no fun e => hne (by rw [e])⟩, E⟩
  refine Sq.nil ?_
  refine Eq.next ?_
  refine Cq.els rfl ?_
  refine Cq.skip ?_
  refine Eq.next ?_
  refine Cq.seq ?_
  refine Cq.region ?_
  refine Sq.move .plain rfl rfl ?_
  refine Sq.assign .plain rfl rfl ?_
  refine Sq.assign .plain rfl rfl ?_
  refine Sq.nil ?_
  refine Eq.next ?_
  refine Cq.ret ?_
  refine Eq.ret2 rfl rfl rfl ?_
  have hmo : m = alOf s := by rw [hm, show i.toNat = s.size by omega]; rfl
  subst hmo
  exact ⟨⟨_, _, rfl, by omega, AlP.of (bytes_ext (Decidable.not_not.1 hne))⟩, E⟩
theorem gsplit_c (w0 : World) (s : ByteArray) (hs : s.size ≤ 2000000) :
    Ret Tryz.prog 46 #[.string s, .string (⟨#[32]⟩ : ByteArray), .int .i64 0, .int .i64 (-1)] w0 (fun v w => Own w w0.heap.size 9 v ((cuts 32 s).map Value.string) ∧ Ext w0 w) := by
  have hc : Lib.countB s ⟨#[32]⟩ = (bytesL s).count 32 := Lib.count_one 32 _
  have hle := Lib.countB_le ⟨#[32]⟩ (by decide) s.size s (Nat.le_refl _)
  have hlen := Lib.splitB_all ⟨#[32]⟩ (by decide) 0 _ s rfl
  have hcut := split_cuts 32 _ s rfl
  have c := Any.strings_genSplit_core Tryz.lays221 (by kernel_rfl) s ⟨#[32]⟩ 0 (-1) (Lib.countB s ⟨#[32]⟩ + 1) w0 (by omega) (by decide) (by decide)
    (fun x c hx => Calls.mono (Tryz.strings_Index_one x 32 _) fun e w ⟨he, hw⟩ => ⟨by rw [he]; show _ = Ending.returned (Value.int .i64 (Lib.indexB x ⟨#[32]⟩)); rw [show Lib.indexB x ⟨#[32]⟩ = Lib.indexByte x.data.toList 32 from Lib.index_one _ _], hw⟩)
    (Calls.mono (Tryz.strings_Count_one s 32 w0) fun e w ⟨he, hw⟩ => ⟨by rw [he, hc]; rfl, hw⟩) (by decide) (by decide) (by rw [if_pos (by decide)]; omega)
  refine Calls.mono c fun e w ⟨he, hw⟩ => ⟨_, he, ?_⟩
  rw [Nat.add_sub_cancel] at hw ⊢
  have e2 : Lib.cellsOf (Lib.splitB ⟨#[32]⟩ 0 (Lib.countB s ⟨#[32]⟩) s) (Lib.countB s ⟨#[32]⟩ + 1) = ((Lib.splitB ⟨#[32]⟩ 0 (Lib.countB s ⟨#[32]⟩) s).map Value.string).toArray := by
    have := Lib.cellsOf_full (Lib.splitB ⟨#[32]⟩ 0 (Lib.countB s ⟨#[32]⟩) s)
    rwa [hlen] at this
  have hln : ((cuts 32 s).map Value.string).length = Lib.countB s ⟨#[32]⟩ + 1 := by rw [List.length_map, ← hcut, ← hc, hlen]
  have hm : maxLen = 9223372036854775807 := rfl
  rw [hw, e2, hc, hcut]
  refine ⟨?_, Ext.alloc _ _⟩
  have hb := Blk.new w0 9 ((cuts 32 s).map Value.string)
  have ho := Own.mk (B := w0.heap.size) (Nat.le_refl _) hb (cap := Lib.countB s ⟨#[32]⟩ + 1) (by omega) (by omega) hln (List.take_of_length_le (Nat.le_refl _))
  rw [hln, hc] at ho
  rw [List.length_map] at hln
  rw [hln, hc]
  exact ho
set_option maxRecDepth 100000 in
theorem split_c (s : ByteArray) (hs : s.size ≤ 2000000) (w0 : World) : Ret Tryz.prog 24 #[Value.string s, Value.string (⟨#[32]⟩ : ByteArray)] w0 (fun v w => Own w w0.heap.size 9 v ((cuts 32 s).map Value.string) ∧ Ext w0 w) := by
  have E := Ext.refl w0
  refine Ret.of (args := [Value.string s, Value.string (⟨#[32]⟩ : ByteArray)]) Tryz.func24 rfl rfl rfl ?_
  rintro _ rfl
  show Cq _ _ _ _ [(0, Value.string s), (1, Value.string (⟨#[32]⟩ : ByteArray))] _
  refine Cq.seq ?_
  refine Cq.region ?_
  refine Sq.assign .plain rfl rfl ?_
  refine Sq.nil ?_
  refine Eq.next ?_
  refine Cq.seq ?_
  refine Cq.region ?_
  refine Sq.move .plain rfl rfl ?_
  refine Sq.move .plain rfl rfl ?_
  refine Sq.call fn46 .plain rfl rfl (gsplit_c _ s (by omega)) ?_
  rintro v1 w2 ⟨ho4, e3⟩
  have hs5 := Below.size E
  have hs6 := Below.size e3
  replace E := E.trans e3
  refine Sq.assign .plain rfl rfl ?_
  refine Sq.nil ?_
  refine Eq.next ?_
  refine Cq.ret ?_
  refine Eq.ret1 rfl rfl ?_
  exact ⟨ho4, E⟩
end Go.Proofs.YtnckpafknojdhaaGreatDoor
set_option linter.unusedSimpArgs false
set_option linter.unusedVariables false
namespace Go.Proofs.YtnckpafknojdhaaGreatDoor
open Go.RowKit
def fen (ro : Option Nat) : Fence := { fn := fun _ => True, depth := none, alive := false, round := ro }
def StD (N : Nat) (D : List Deferred) (l : Slots) (a : Act) : Prop := St N l { a with defers := [] } ∧ a.defers = D
theorem StD.ev {N : Nat} {D : List Deferred} {l : Slots} {a : Act} {x : Operand} {v : Value} (h : StD N D l a) (hx : ev l x = some v) : a.eval x = v := h.1.ev hx
theorem StD.put {N : Nat} {D : List Deferred} {l : Slots} {a : Act} {d : Nat} {v : Value} (h : StD N D l a) (hd : Nat.blt d N = true) : StD N D ((d, v) :: l) (a.put (some d) v) := ⟨h.1.put hd, h.2⟩
theorem StD.sub {N : Nat} {D : List Deferred} {l l' : Slots} {a : Act} (h : StD N D l a) (s : Sub l l') : StD N D l' a := ⟨h.1.sub s, h.2⟩
theorem St.toD {N : Nat} {l : Slots} {a : Act} (h : St N l a) : StD N [] l a := ⟨⟨h.size, rfl, h.slot⟩, h.defers⟩
def SqF (ro : Option Nat) (n : Nat) (P : Program) (N : Nat) (D : List Deferred) (ops : Array Oper) (Q : Exit → Act → World → Prop) (rest : List Oper) (l : Slots) (w : World) : Prop :=
  ∀ a, StD N D l a → wpListIn (fen ro) n P ops Q rest a w
def CqF (ro : Option Nat) (n : Nat) (P : Program) (N : Nat) (D : List Deferred) (c : Code) (Q : Exit → Act → World → Prop) (l : Slots) (w : World) : Prop :=
  ∀ a, StD N D l a → c.wpIn (fen ro) n P Q a w
def EqF (N : Nat) (D : List Deferred) (Q : Exit → Act → World → Prop) (e : Exit) (l : Slots) (w : World) : Prop := ∀ a, StD N D l a → Q e a w
section code
variable {ro : Option Nat} {n : Nat} {P : Program} {N : Nat} {D : List Deferred} {Q : Exit → Act → World → Prop} {l : Slots} {w : World}
theorem CqF.seq {x y : Code} (h : CqF ro n P N D x (Exit.then (y.wpIn (fen ro) n P Q) Q) l w) : CqF ro n P N D (.seq x y) Q l w := fun a ha => wpIn_seq (h a ha)
theorem CqF.skip (h : EqF N D Q .normal l w) : CqF ro n P N D .skip Q l w := fun a ha => wpIn_skip (h a ha)
theorem CqF.ret (h : EqF N D Q .ret l w) : CqF ro n P N D .ret Q l w := fun a ha => wpIn_ret (h a ha)
theorem CqF.block {id : Nat} {c : Code} (h : CqF ro n P N D c (Exit.inBlock id Q) l w) : CqF ro n P N D (.block id c) Q l w := fun a ha => wpIn_block (h a ha)
theorem CqF.thn {c : Operand} {x y : Code} (hc : ev l c = some (.bool true)) (h : CqF ro n P N D x Q l w) : CqF ro n P N D (.cond c x y) Q l w := fun a ha => wpIn_cond_true (ha.ev hc) (h a ha)
theorem CqF.els {c : Operand} {x y : Code} (hc : ev l c = some (.bool false)) (h : CqF ro n P N D y Q l w) : CqF ro n P N D (.cond c x y) Q l w := fun a ha => wpIn_cond_false (ha.ev hc) (h a ha)
theorem CqF.region {id : Nat} {ops : List Oper} (h : SqF ro n P N D ops.toArray Q ops l w) : CqF ro n P N D (.region id ops.toArray false) Q l w := fun a ha => wpIn_region_lit (h a ha)
theorem EqF.next {y : Code} (h : CqF ro n P N D y Q l w) : EqF N D (Exit.then (y.wpIn (fen ro) n P Q) Q) .normal l w := fun a ha => h a ha
theorem EqF.nextW {y : Code} (h : CqF none 0 P N D y Q l w) : EqF N D (Exit.then (y.wp P Q) Q) .normal l w := fun a ha => (wpIn_wide (n := 0)).1 (h a ha)
theorem EqF.pastRet {K : Act → World → Prop} (h : EqF N D Q .ret l w) : EqF N D (Exit.then K Q) .ret l w := fun a ha => h a ha
theorem EqF.end {id : Nat} (h : EqF N D Q .normal l w) : EqF N D (Exit.inBlock id Q) .normal l w := fun a ha => h a ha
theorem EqF.outRet {id : Nat} (h : EqF N D Q .ret l w) : EqF N D (Exit.inBlock id Q) .ret l w := fun a ha => h a ha
theorem EqF.ofEq {e : Exit} (h : Eq N Q e l w) : EqF N [] Q e l w := fun a ha => h a ⟨ha.1.size, ha.2, ha.1.slot⟩
theorem Cq.regionF {id : Nat} {ops : List Oper} (h : SqF none 0 P N [] ops.toArray Q ops l w) : Cq P N (.region id ops.toArray false) Q l w := fun a ha => (wpIn_wide (n := 0)).1 (wpIn_region_lit (h a ha.toD))
end code
def YRet (P : Program) (lp : Nat) (u : Value) (w : World) (R : Value → World → Prop) : Prop :=
  ∃ fn tmps assign body, (Instr.yield lp #[u]).run P w = .ok (.round lp fn tmps assign body) w ∧ ∀ m, RoundIn Fence.wide m P lp fn tmps assign body w (fun e w' => ∃ v, e = .returned v ∧ R v w')
section ops
variable {ro : Option Nat} {n : Nat} {P : Program} {N : Nat} {D : List Deferred} {ops : Array Oper} {Q : Exit → Act → World → Prop} {rest : List Oper} {l : Slots} {w : World}
theorem SqF.nil (h : EqF N D Q .normal l w) : SqF ro n P N D ops Q [] l w := fun a ha => wpListIn_nil (h a ha)
theorem SqF.val {o : Oper} {d : Nat} {v : Value} {w' : World} (hg : o.guard = none) (hnd : ∀ c, o.op ≠ .defer c) (hd : o.dst = some d) (hN : Nat.blt d N = true)
    (hrun : ∀ a, St N l a → (execOp a.eval o).run P w = .ok (.value v) w') (h : SqF ro n P N D ops Q rest ((d, v) :: l) w') : SqF ro n P N D ops Q (o :: rest) l w := by
  intro a ha
  refine wpListIn_plain hg fun K hK => ?_
  unfold Oper.wpIn
  refine ⟨fun _ _ => trivial, ?_⟩
  have hr : (execOp a.eval o).run P w = .ok (.value v) w' := hrun { a with defers := [] } ha.1
  rw [Oper.semAt_eq _ _ _ hnd, hr, Oper.uponIn_value, hd]
  exact hK _ _ (h _ (ha.put hN))
theorem SqF.unit {o : Oper} {w' : World} (hg : o.guard = none) (hnd : ∀ c, o.op ≠ .defer c) (hd : o.dst = none)
    (hrun : ∀ a, St N l a → (execOp a.eval o).run P w = .ok .skip w') (h : SqF ro n P N D ops Q rest l w') : SqF ro n P N D ops Q (o :: rest) l w := by
  intro a ha
  refine wpListIn_plain hg fun K hK => ?_
  unfold Oper.wpIn
  refine ⟨fun _ _ => trivial, ?_⟩
  have hr : (execOp a.eval o).run P w = .ok .skip w' := hrun { a with defers := [] } ha.1
  rw [Oper.semAt_eq _ _ _ hnd, hr, Oper.uponIn_skip, hd]
  exact hK _ _ (h _ ha)
section
variable {d : Nat} {ty : TypeId} {pos : String} {after : Array Edge}
theorem SqF.call {f : FuncId} {fn : Func} {xs : List Operand} {ats : Array TypeId} {vs : List Value} {R : Value → World → Prop} (hf : Fn P f fn) (hN : Nat.blt d N = true)
    (hx : evs l xs = some vs) (hc : Ret P f vs.toArray w R) (h : ∀ v w', R v w' → SqF ro n P N D ops Q rest ((d, v) :: l) w') :
    SqF ro n P N D ops Q (⟨some d, .call ⟨.value (.func f), xs.toArray, ats⟩, ty, pos, after, none⟩ :: rest) l w := by
  intro a ha
  refine wpListIn_plain rfl fun K hK => ?_
  unfold Oper.wpIn
  refine ⟨fun _ _ => trivial, ?_⟩
  rw [Oper.semAt_eq _ _ _ (fun c => by intro h; cases h), execOp_call_go, run_callFunc hf, Oper.uponIn_enter]
  refine ⟨fun h => by simp [fen] at h, ?_⟩
  have hargs : (#[] ++ xs.toArray.map a.eval ++ #[]) = vs.toArray := by
    have := ha.1.evs hx
    rw [List.map_toArray, show xs.map a.eval = vs from this]; simp
  rw [hargs]
  refine show CallsIn Fence.wide (n - 1) P f vs.toArray w _ from callsIn_wide.2 (Calls.mono hc fun e w' he => ?_)
  obtain ⟨v, rfl, hv⟩ := he
  exact hK _ _ (h v w' hv _ (ha.put hN))
theorem SqF.yield {x y : Operand} {t : TypeId} {lp : Nat} {u : Value} {R : Value → World → Prop} (hN : Nat.blt d N = true) (hx : ev l x = some (.func (.yield lp) #[] #[])) (hy : ev l y = some u) (hc : YRet P lp u w R)
    (h : ∀ v w', R v w' → SqF ro n P N D ops Q rest ((d, v) :: l) w') : SqF ro n P N D ops Q (⟨some d, .call ⟨.value x, #[y], #[t]⟩, ty, pos, after, none⟩ :: rest) l w := by
  intro a ha
  refine wpListIn_plain rfl fun K hK => ?_
  unfold Oper.wpIn
  refine ⟨fun _ _ => trivial, ?_⟩
  obtain ⟨fn, tmps, assign, body, h1, h2⟩ := hc
  have hr : (execOp a.eval ⟨some d, .call ⟨.value x, #[y], #[t]⟩, ty, pos, after, none⟩).run P w = .ok (.round lp fn tmps assign body) w := by
    have e : execOp a.eval ⟨some d, .call ⟨.value x, #[y], #[t]⟩, ty, pos, after, none⟩ = Instr.yield lp #[u] := by
      show (do let d ← resolve a.eval ⟨.value x, #[y], #[t]⟩ ty; invoke d.target d.args) = _
      unfold resolve
      have e1 : (#[y] : Array Operand).map a.eval = #[u] := by simp [ha.ev hy]
      simp only [e1, ha.ev hx, Deferred.ofValue]
      show invoke (.fn (.yield lp) #[]) (#[] ++ #[u]) = _
      simp [invoke]
    rw [e, h1]
  rw [Oper.semAt_eq _ _ _ (fun c => by intro h; cases h), hr, Oper.uponIn_round]
  refine ⟨fun h => by simp [fen] at h, ?_⟩
  refine show RoundIn Fence.wide (n - 1) P lp fn tmps assign body w _ from (h2 (n - 1)).mono fun e w' he => ?_
  obtain ⟨v, rfl, hv⟩ := he
  exact hK _ _ (h v w' hv _ (ha.put hN))
end
end ops
section
variable {P : Program} {N : Nat} {l : Slots} {w : World} {ty : TypeId} {pos : String} {after : Array Edge} {g : Option (Nat × Bool)}
theorem run_store1 {t u : TypeId} {b o : Nat} {x y : Operand} {v : Value} {cs : List Value} (h1 : One P t) (hx : ev l x = some (.pointer (some ⟨b, o, none⟩))) (hy : ev l y = some v) (hv : v.oneCell' = true) (hb : Blk w b u cs) (ho : o < cs.length) :
    ∀ a, St N l a → (execOp a.eval ⟨none, .store t x y, ty, pos, after, g⟩).run P w = .ok .skip (w.setCell ⟨b, o, none⟩ v) := fun a ha => by
  have hc : v.cells = #[v] := by cases v <;> simp_all [Value.cells, Value.oneCell']
  have h2 := hb.cell o
  rw [List.getElem?_eq_getElem ho] at h2
  simp [execOp, ha.ev hx, ha.ev hy, Instr.storeAt, Instr.sureAddr, storeVar, hc, h1.size, storeCells, addr_add, run_store _ _ _ _ _ hv, h2, hb.free]
theorem run_lit1 {d n : Nat} {t e : TypeId} {z : Value} {x : Operand} {v : Value} (hs : SlT P t e z) (hx : ev l x = some v) (h1 : v.oneCell' = true) :
    ∀ a, St N l a → (execOp a.eval ⟨some d, .buildSlice t 1 #[(0, x)], ty, pos, after, g⟩).run P w = .ok (.value (.slice (some ⟨w.heap.size, 0, none⟩) 1 1)) (w.alloc (.cells [v].toArray e)) := fun a ha => by
  obtain ⟨i, hi, hz, hsz, hby⟩ := hs.info
  have hv : v.cells = #[v] := by cases v <;> simp_all [Value.cells, Value.oneCell']
  have hzc : z.cells = #[z] := by
    have := hs.one
    cases z <;> simp_all [Value.cells, Value.oneCell']
  have hfill : Instr.fill (fun i => some (i * 1, 1)) #[z] [(0, v)] = some #[v] := by simp [Instr.fill, hv]
  have hr2 : (Array.range 1).map (fun i => (#[z] : Array Value)[i % 1]!) = #[z] := by
    apply Array.ext
    · simp
    · intro i h1 h2
      have : i % 1 = 0 := Nat.mod_one i
      simp [this]
  have hr3 : (Array.range 1).map (fun i => ([z] : List Value)[i % 1]?.getD default) = #[z] := by
    apply Array.ext
    · simp
    · intro i h1 h2
      have : i % 1 = 0 := Nat.mod_one i
      simp [this]
  simp only [Nat.mul_one] at hfill
  simp [execOp, ha.ev hx, Instr.buildSlice, run_underlying hs.und, hs.sizeOf, newRow, zeroValue, typeInfo, hi, hz, hzc, hr3, hfill]
end
theorem SqF.app1 {ro : Option Nat} {n : Nat} {P : Program} {N : Nat} {D : List Deferred} {ops : Array Oper} {Q : Exit → Act → World → Prop} {rest : List Oper} {l : Slots} {w : World}
    {d d2 : Nat} {ty ty2 : TypeId} {pos pos2 : String} {after after2 : Array Edge} {t e : TypeId} {z : Value} {s x : Operand} {v u : Value} {vs : List Value} {B : Nat}
    (hs : SlT P t e z) (ho : Own w B e v vs) (hB : B ≤ w.heap.size) (hlen : vs.length < 1073741824) (hN : Nat.blt d N = true) (hN2 : Nat.blt d2 N = true)
    (hsv : ∀ b, ev ((d, .slice (some ⟨b, 0, none⟩) 1 1) :: l) s = some v) (hxv : ev l x = some u) (h1 : u.oneCell' = true)
    (h : ∀ b v' w', Own w' B e v' (vs ++ [u]) → w.grownBy w' v.ownBlock → SqF ro n P N D ops Q rest ((d2, v') :: (d, .slice (some ⟨b, 0, none⟩) 1 1) :: l) w') :
    SqF ro n P N D ops Q (⟨some d, .buildSlice t 1 #[(0, x)], ty, pos, after, none⟩ :: ⟨some d2, .call ⟨.builtin .append, #[s, .tmp d], #[t, t]⟩, ty2, pos2, after2, none⟩ :: rest) l w := by
  refine SqF.val rfl (fun c => by intro h; cases h) rfl hN (run_lit1 (n := 1) hs hxv h1) ?_
  have x1 : Ext w (w.alloc (.cells [u].toArray e)) := Ext.alloc _ _
  have hblk : Blk (w.alloc (.cells [u].toArray e)) w.heap.size e [u] := Blk.new _ _ _
  intro a ha
  obtain ⟨i, hi, hz, hsz, hby⟩ := hs.info
  have hzc : z.cells.size = 1 := by
    have := hs.one
    cases z <;> simp_all [Value.cells, Value.oneCell']
  have ho1 := ho.ext x1
  refine wpListIn_append_own _ (P := P) rfl s (.tmp d) t rfl B e i z 1 i.bytes hs.und hi hz hsz rfl hzc (by omega) v vs.length vs (ha.ev (hsv _)) ho1 ⟨w.heap.size, 0, none⟩ 1 1 [u] (ha.ev (by simp [ev, look])) rfl ?_ (by simpa using h1)
    (by unfold maxLen; omega) ?_ (Nat.le_trans hB x1.size) fun v' w' r1 r2 r3 => ?_
  · intro j u' hj
    rw [addr_add, hblk.cell]
    simpa using hj
  · have : (vs.length + 1) * i.bytes ≤ 1073741824 * 64 := Nat.mul_le_mul (by omega) hby
    omega
  · exact h _ v' w' (by unfold Own; simpa using r1) (grown_trans (x1.to_grown _) r2) _ (ha.put hN2)
def recL (fn : FuncId) (tmps : Array Value) (p : Tmp) (assign body : Code) (dn : Nat) (st : LoopState) (pe : Option Code) : Loop := { state := st, pending := pe, fn, tmps, params := #[p], assign, body, defers := dn }
def markL (dn : Nat) : List Deferred := [{ target := .collected dn, args := #[] }]
def Mk (mk : LoopState → Option Code → Loop) (fn : FuncId) (tmps : Array Value) (p : Tmp) (assign body : Code) (dn : Nat) : Prop := ∀ st pe, mk st pe = recL fn tmps p assign body dn st pe
theorem Cq.range {P : Program} {N : Nat} {Q : Exit → Act → World → Prop} {l : Slots} {w : World} {g : Operand} {p : Tmp} {assign body : Code} {gf : Nat} {fnn : Func} {lb : List Value}
    (hg : ev l g = some (.func (.func gf) #[] lb.toArray)) (hf : Fn P gf fnn)
    (h : ∀ (fn : FuncId) (tmps : Array Value) (mk : LoopState → Option Code → Loop) (W1 : World), Mk mk fn tmps p assign body w.heap.size → St N l ⟨tmps, []⟩ → Ext w W1 → W1.heap.size = w.heap.size + 2 → W1.heap[w.heap.size]? = some (.deferred (some [])) →
      W1.heap[w.heap.size + 1]? = some (.loop (mk .ready none)) →
      Ret P gf (Value.func (.yield (w.heap.size + 1)) #[] #[] :: lb).toArray W1 fun _ W3 => ∃ st pe, W3.heap[w.heap.size + 1]? = some (.loop (mk st pe)) ∧ st ≠ .busy ∧
        ((pe = none ∧ EqF N (markL w.heap.size) Q .normal l (W3.putObj (w.heap.size + 1) (.loop (mk .exhausted pe)))) ∨
         (pe = some .ret ∧ EqF N (markL w.heap.size) Q .ret l (W3.putObj (w.heap.size + 1) (.loop (mk .exhausted pe)))))) :
    Cq P N (.rangeFunc g #[p] assign body) Q l w := by
  intro a ha
  refine (wpIn_wide (n := 0)).1 (wpIn_rangeFunc fun fn hfn => ?_)
  obtain ⟨W1, hW1⟩ : ∃ W1, (w.alloc (.deferred (some []))).alloc (.loop (recL fn a.tmps p assign body w.heap.size .ready none)) = W1 := ⟨_, rfl⟩
  have hL1 : W1.heap[w.heap.size + 1]? = some (.loop (recL fn a.tmps p assign body w.heap.size .ready none)) := by
    rw [← hW1]; have := World.alloc_heap_new (w.alloc (.deferred (some []))) (.loop (recL fn a.tmps p assign body w.heap.size .ready none)); rwa [World.size_alloc] at this
  have hK1 : W1.heap[w.heap.size]? = some (.deferred (some [])) := by
    rw [← hW1]; exact (Below.heap_alloc _ _ _ (by simp)).trans (World.alloc_heap_new w _)
  have hE : Ext w W1 := by rw [← hW1]; exact (Ext.alloc _ _).trans (Ext.alloc _ _)
  have hS : W1.heap.size = w.heap.size + 2 := by rw [← hW1, World.size_alloc, World.size_alloc]
  refine ⟨w.heap.size + 1, markL w.heap.size, W1, { target := .fn (.func gf) lb.toArray, args := #[.func (.yield (w.heap.size + 1)) #[] #[]] }, W1, gf,
    #[.func (.yield (w.heap.size + 1)) #[] #[]] ++ lb.toArray, W1, ?_, ?_, fun _ _ => trivial, ?_, fun h => by simp [Fence.wide] at h, ?_⟩
  · rw [← hW1]; exact run_enterLoop_outer _ _ _ _ _
  · have hg' := ha.ev hg
    simp only [resolve, hg']
    simp [go_sem]
  · show (callFunc gf _).run P W1 = _
    exact run_callFunc hf _
  · rw [show (#[Value.func (.yield (w.heap.size + 1)) #[] #[]] ++ lb.toArray) = (Value.func (.yield (w.heap.size + 1)) #[] #[] :: lb).toArray by simp]
    refine callsIn_wide.2 (Calls.mono (h fn a.tmps (recL fn a.tmps p assign body w.heap.size) W1 (fun _ _ => rfl) ⟨ha.size, rfl, ha.slot⟩ hE hS hK1 hL1) fun e W3 he => ?_)
    obtain ⟨v, rfl, st, pe, h3, hst, hor⟩ := he
    refine ⟨pe, W3.putObj (w.heap.size + 1) (.loop (recL fn a.tmps p assign body w.heap.size .exhausted pe)), ?_, ?_⟩
    · exact run_endLoop (P := P) h3 hst
    · have hst' : StD N (markL w.heap.size) l { a with defers := markL w.heap.size ++ a.defers } := ⟨⟨ha.size, rfl, ha.slot⟩, by rw [ha.defers, List.append_nil]⟩
      rcases hor with ⟨rfl, hq⟩ | ⟨rfl, hq⟩
      · exact hq _ hst'
      · exact wpIn_ret (hq _ hst')
theorem Ret.ofM {P : Program} {f : FuncId} {fn : Func} {c : Code} {N : Nat} {args : List Value} {w : World} {R : Value → World → Prop} (hf : P.funcs[f]? = some fn) (hb : fn.body = some c) (hN : fn.ntmps = N) (hle : Nat.ble args.length N = true)
    (h : ∀ l, l = args.zipIdx.map (fun p => (p.2, p.1)) → Cq P N c (bodyPostM Fence.wide 0 P fn fun e w' => ∃ v, e = .returned v ∧ R v w') l w) : Ret P f args.toArray w R := by
  refine (callsIn_wide (n := 0)).1 (callsIn_of_wp_marks hf hb trivial ((wpIn_wide (n := 0)).2 (h _ rfl _ ⟨?_, rfl, ?_⟩)) rfl)
  · have := Nat.le_of_ble_eq_true hle
    simp [hN]
    omega
  · intro t v hv
    have key : ∀ (xs : List Value) (k : Nat), look ((xs.zipIdx k).map (fun p => (p.2, p.1))) t = some v → k ≤ t ∧ xs[t - k]? = some v := by
      intro xs
      induction xs with
      | nil => intro k h; simp [look] at h
      | cons x r ih =>
        intro k h
        simp only [List.zipIdx_cons, List.map_cons, look] at h
        cases hb : Nat.beq k t with
        | true =>
          obtain rfl := Nat.eq_of_beq_eq_true hb
          rw [hb] at h
          simp at h
          simp [h]
        | false =>
          rw [hb] at h
          obtain ⟨h1, h2⟩ := ih (k + 1) h
          have : t - k = (t - (k + 1)) + 1 := by omega
          exact ⟨by omega, by rw [this]; simpa using h2⟩
    obtain ⟨_, h2⟩ := key args 0 hv
    have h3 : args[t]? = some v := by simpa using h2
    have h4 : t < args.length := by
      rcases Nat.lt_or_ge t args.length with h | h
      · exact h
      · simp [List.getElem?_eq_none h] at h3
    have h5 : args[t] = v := by rw [List.getElem?_eq_getElem h4] at h3; exact Option.some.inj h3
    simp [Array.getD_eq_getD_getElem?, Array.getElem?_append, h4, h5]
theorem res_cells {P : Program} {fn : Func} {tmps : Array Value} {w : World} {t t' b b' : Nat} {ty ty' e e' : TypeId} {u v : Value} (hr : fn.results = #[.cell t ty, .cell t' ty']) (h1 : One P ty) (h1' : One P ty')
    (hs : tmps.getD t undef = .pointer (some ⟨b, 0, none⟩)) (hs' : tmps.getD t' undef = .pointer (some ⟨b', 0, none⟩)) (hb : Blk w b e [u]) (hb' : Blk w b' e' [v]) : (results fn tmps).run P w = .ok (.tuple #[u, v]) w := by
  have hc := hb.cell 0
  have hc' := hb'.cell 0
  simp only [Array.getD_eq_getD_getElem?] at hs hs'
  simp only [results, hr]
  simp [hs, hs', asAddr, loadVar, h1.agg, h1'.agg, hc, hc']
theorem Eq.retM {P : Program} {fn : Func} {N t t' b b' : Nat} {ty ty' e e' : TypeId} {l : Slots} {w : World} {u v : Value} {R : Value → World → Prop} (hr : fn.results = #[.cell t ty, .cell t' ty']) (h1 : One P ty) (h1' : One P ty')
    (hs : look l t = some (.pointer (some ⟨b, 0, none⟩))) (hs' : look l t' = some (.pointer (some ⟨b', 0, none⟩))) (hb : Blk w b e [u]) (hb' : Blk w b' e' [v]) (h : R (.tuple #[u, v]) w) :
    Eq N (bodyPostM Fence.wide 0 P fn fun e w' => ∃ v, e = .returned v ∧ R v w') .ret l w := fun a ha => by
  show LeavesInM _ _ _ _ _ _ a.defers _ _
  rw [ha.defers]
  exact ⟨_, res_cells hr h1 h1' (ha.slot _ _ hs) (ha.slot _ _ hs') hb hb', _, rfl, h⟩
theorem EqF.retM {P : Program} {fn : Func} {N t t' b b' dn : Nat} {ty ty' e e' : TypeId} {l : Slots} {w : World} {u v : Value} {R : Value → World → Prop} (hr : fn.results = #[.cell t ty, .cell t' ty']) (h1 : One P ty) (h1' : One P ty')
    (hs : look l t = some (.pointer (some ⟨b, 0, none⟩))) (hs' : look l t' = some (.pointer (some ⟨b', 0, none⟩))) (hb : Blk w b e [u]) (hb' : Blk w b' e' [v]) (hne : b ≠ dn) (hne' : b' ≠ dn) (hd : w.heap[dn]? = some (.deferred (some [])))
    (h : R (.tuple #[u, v]) (w.putObj dn (.deferred none))) : EqF N (markL dn) (bodyPostM Fence.wide 0 P fn fun e w' => ∃ v, e = .returned v ∧ R v w') .ret l w := fun a ha => by
  show LeavesInM _ _ _ _ _ _ a.defers _ _
  rw [ha.2]
  refine ⟨by simp, .inl ⟨_, _, rfl, run_takeDeferred hd, ?_⟩⟩
  exact ⟨_, res_cells hr h1 h1' (ha.1.slot _ _ hs) (ha.1.slot _ _ hs') ((World.putObj_heap_other hne).trans hb) ((World.putObj_heap_other hne').trans hb'), _, rfl, h⟩
def ErrCell (w : World) (g : Nat) : Prop := ∃ u, w.cell? ⟨g, 0, none⟩ = some u ∧ (u = .nilIface ∨ ∃ te pe, u = .iface te pe)
theorem ErrCell.ext {w w' : World} {g : Nat} (h : ErrCell w g) (x : Ext w w') : ErrCell w' g := by
  obtain ⟨u, h1, h2⟩ := h
  exact ⟨u, (Below.cell x (p := ⟨g, 0, none⟩) (block_lt_of_cell h1)).trans h1, h2⟩
theorem keep_grown {w w' : World} {b : Nat} {o : Obj} {r : Option Nat} (h : w.heap[b]? = some o) (hg : w.grownBy w' r) (hne : r ≠ some b) : w'.heap[b]? = some o :=
  (hg.block b (lt_of_block h) (fun e => hne e.symm)).trans h
section
variable {P : Program} {N : Nat} {l : Slots} {W : World} {lp : Nat} {fn : FuncId} {tmps : Array Value} {p : Tmp} {assign body : Code} {dn : Nat} {mk : LoopState → Option Code → Loop}
theorem YRet.of {x : Value} {R : Value → World → Prop} (hmk : Mk mk fn tmps p assign body dn)
    (kL : W.heap[lp]? = some (.loop (mk .ready none))) (hst : St N l ⟨tmps, []⟩) (hp : Nat.blt p N = true)
    (h : ∀ m, CqF (some lp) m P N [] assign (Exit.then (fun a₁ w₁ => ∃ w₂, (Instr.beginRound lp).run P w₁ = .ok () w₂ ∧ body.wpIn (fen (some lp)) m P (roundPost P lp (fun e w' => ∃ v, e = .returned v ∧ R v w')) a₁ w₂) (fun _ _ _ => False)) ((p, x) :: l) W) : YRet P lp x W R := by
  rw [hmk] at kL
  refine ⟨fn, tmps.setIfInBounds p x, assign, body, ?_, fun m => roundIn_of_wpIn (F := Fence.wide) trivial (h m _ ⟨hst.put hp, rfl⟩)⟩
  have := run_yield (P := P) (args := #[x]) kL (by simp [recL])
  rw [this]
  simp [recL]
theorem EqF.begin {D : List Deferred} {m : Nat} {body' : Code} {Q Q' : Exit → Act → World → Prop} (hmk : Mk mk fn tmps p assign body dn) (kL : W.heap[lp]? = some (.loop (mk .ready none)))
    (h : CqF (some lp) m P N D body' Q l (W.putObj lp (.loop (mk .busy none)))) : EqF N D (Exit.then (fun a₁ w₁ => ∃ w₂, (Instr.beginRound lp).run P w₁ = .ok () w₂ ∧ body'.wpIn (fen (some lp)) m P Q a₁ w₂) Q') .normal l W :=
  fun a ha => ⟨_, run_beginRound kL (by rw [hmk]; rfl), by
    have e : ({ mk .ready none with state := .busy } : Loop) = mk .busy none := by rw [hmk, hmk]; rfl
    rw [e]; exact h a ha⟩
theorem EqF.round {D : List Deferred} {R : Ending → World → Prop} (hmk : Mk mk fn tmps p assign body dn) (kL : W.heap[lp]? = some (.loop (mk .busy none))) (h : R (.returned (.bool true)) (W.putObj lp (.loop (mk .ready none)))) : EqF N D (roundPost P lp R) .normal l W :=
  fun a ha => ⟨_, _, run_endRound none kL, by
    have e : ({ mk .busy none with state := .ready, pending := none } : Loop) = mk .ready none := by rw [hmk, hmk]; rfl
    show R (.returned (.bool true)) (W.putObj lp (.loop { mk .busy none with state := .ready, pending := none }))
    rw [e]; exact h⟩
theorem EqF.roundRet {D : List Deferred} {R : Ending → World → Prop} (hmk : Mk mk fn tmps p assign body dn) (kL : W.heap[lp]? = some (.loop (mk .busy none))) (h : R (.returned (.bool false)) (W.putObj lp (.loop (mk .done (some .ret))))) : EqF N D (roundPost P lp R) .ret l W :=
  fun a ha => ⟨_, _, run_endRound (some .ret) kL, by
    have e : ({ mk .busy none with state := .done, pending := some .ret } : Loop) = mk .done (some .ret) := by rw [hmk, hmk]; rfl
    show R (.returned (.bool false)) (W.putObj lp (.loop { mk .busy none with state := .done, pending := some .ret }))
    rw [e]; exact h⟩
end
section
variable {P : Program} {N : Nat} {l : Slots} {w : World} {d : Nat} {ty xt yt : TypeId} {pos : String} {after : Array Edge} {g : Option (Nat × Bool)} {x y : Operand}
theorem Still.neqNil (ht : P.underlying xt = some (.interface (P.methodsAt xt))) (hx : ev l x = some .nilIface) : Still P N l ⟨some d, .binOp .neq xt x (.const .nilIface) yt, ty, pos, after, g⟩ (.bool false) w := fun a ha => by
  have hy : a.eval (.const .nilIface) = .nilIface := rfl
  simp only [execOp, ha.ev hx, hy, eqGuard_nil_constR]
  simp [run_neq_nil_nil w xt ht]
theorem Still.neqErr {te : TypeId} {pe : Value} (ht : P.underlying xt = some (.interface (P.methodsAt xt))) (hx : ev l x = some (.iface te pe)) : Still P N l ⟨some d, .binOp .neq xt x (.const .nilIface) yt, ty, pos, after, g⟩ (.bool true) w := fun a ha => by
  have hy : a.eval (.const .nilIface) = .nilIface := rfl
  have hg : eqGuard .neq xt x (.const .nilIface) (.iface te pe) .nilIface = pure () := rfl
  simp only [execOp, ha.ev hx, hy, hg]
  simp [run_neq_held_nil w xt te pe ht]
end
theorem Sq.cutOwn {P : Program} {N : Nat} {ops : Array Oper} {Q : Exit → Act → World → Prop} {rest : List Oper} {l : Slots} {w : World} {d : Nat} {ty : TypeId} {pos : String} {after : Array Edge} {g : Option (Nat × Bool)}
    {t e : TypeId} {z : Value} {x lo : Operand} {v : Value} {vs : List Value} {B : Nat} (hs : SlT P t e z) (ho : Own w B e v vs) (hn : 1 ≤ vs.length)
    (hg : On ops l g) (hN : Nat.blt d N = true) (hx : ev l x = some v) (hh : ev l lo = some (.int .i64 1)) (h : ∀ v', Row w e v' (vs.drop 1) → Sq P N ops Q rest ((d, v') :: l) w) :
    Sq P N ops Q (⟨some d, .slice t x (some lo) none none, ty, pos, after, g⟩ :: rest) l w := by
  rcases ho.cases with ⟨rfl, rfl⟩ | ⟨gb, cap, cs, rfl, _, hb, h3, h4, h5, h6⟩
  · simp at hn
  · refine Sq.val (v := sliced (some ⟨gb, 0, none⟩) 1 vs.length cap 1) hg rfl hN (fun a ha => ?_) (h _ ?_)
    · have h1 := run_sliceAt_slice (P := P) (w := w) t (.slice (some ⟨gb, 0, none⟩) vs.length cap) (some (.int .i64 1)) none none (by rw [hs.elem]; exact hs.und)
      have h2 := run_slice_l (P := P) (w := w) t (some ⟨gb, 0, none⟩) vs.length cap (by rw [hs.elem]; exact hs.und) .i64 1 (by decide) (by omega)
      rw [hs.elem, hs.sizeOf] at h2
      simp [execOp, ha.ev hx, ha.ev hh, h1, h2]
    · rcases Nat.lt_or_ge 1 vs.length with h7 | h7
      · have hc : ¬ cap = 1 := by omega
        refine .inr ⟨gb, 1, cap - 1, cs.toArray, (0, 0), ?_, hb, fun i u hu => ?_⟩
        · simp [sliced, hc, Addr.add, List.length_drop]
        · rw [← h6, List.getElem?_drop, List.getElem?_take] at hu
          split at hu
          · simpa using hu
          · cases hu
      · refine .inl ⟨List.drop_eq_nil_of_le h7, if cap = 1 then some ⟨gb, 0, none⟩ else some (Addr.add ⟨gb, 0, none⟩ (1 * 1)), cap - 1, ?_, fun hc => by split at hc <;> cases hc⟩
        have e : vs.length - 1 = 0 := by omega
        simp only [sliced, e, Option.map_some]
end Go.Proofs.YtnckpafknojdhaaGreatDoor
set_option linter.unusedSimpArgs false
set_option linter.unusedVariables false
namespace Go.Proofs.YtnckpafknojdhaaGreatDoor
open Go.RowKit
theorem index_c (s : ByteArray) (w0 : World) : Ret Tryz.prog 61 #[.string s, .string (⟨#[44]⟩ : ByteArray)] w0 (fun v w => v = .int .i64 (Lib.indexByte (bytesL s) 44) ∧ w0 = w) :=
  Calls.mono (Tryz.strings_Index_one s 44 w0) fun e w ⟨he, hw⟩ => ⟨_, he, rfl, hw.symm⟩
set_option maxRecDepth 100000 in
theorem splitSeq_c (s t : ByteArray) (w0 : World) : Ret Tryz.prog 62 #[Value.string s, Value.string t, Value.int .i64 0] w0 (fun v w => (∃ sb pb vb, v = .func (.func 77) #[] #[.pointer (some ⟨pb, 0, none⟩), .pointer (some ⟨sb, 0, none⟩), .pointer (some ⟨vb, 0, none⟩)] ∧ (w0.heap.size ≤ sb ∧ sb < pb ∧ pb < vb) ∧ Blk w sb 9 [.string s] ∧ Blk w pb 9 [.string t] ∧ Blk w vb 3 [.int .i64 0]) ∧ Ext w0 w) := by
  have E := Ext.refl w0
  refine Ret.of (args := [Value.string s, Value.string t, Value.int .i64 0]) Tryz.func62 rfl rfl rfl ?_
  rintro _ rfl
  show Cq _ _ _ _ [(0, Value.string s), (1, Value.string t), (2, Value.int .i64 0)] _
  refine Cq.seq ?_
  refine Cq.region ?_
  refine Sq.box1 .plain rfl rfl rfl (fun b1 w2 e3 hB4 hlo5 => ?_)
  have hd6 := Nat.le_trans (Below.size E) hlo5
  have hs7 := Below.size e3
  replace E := E.trans e3
  refine Sq.box1 .plain rfl rfl rfl (fun b8 w9 e10 hB11 hlo12 => ?_)
  have hd13 := Nat.le_trans (Below.size E) hlo12
  have hd14 := Nat.lt_of_lt_of_le hB4.lt hlo12
  have hs15 := Below.size e10
  replace E := E.trans e10
  replace hB4 := hB4.ext e10
  refine Sq.box1 .plain rfl rfl rfl (fun b16 w17 e18 hB19 hlo20 => ?_)
  have hd21 := Nat.le_trans (Below.size E) hlo20
  have hd22 := Nat.lt_of_lt_of_le hB4.lt hlo20
  have hd23 := Nat.lt_of_lt_of_le hB11.lt hlo20
  have hs24 := Below.size e18
  replace E := E.trans e18
  replace hB4 := hB4.ext e18
  replace hB11 := hB11.ext e18
  refine Sq.assign .plain rfl rfl ?_
  refine Sq.nil ?_
  refine Eq.next ?_
  refine Cq.seq ?_
  refine Cq.region ?_
  refine Sq.makeFunc .plain rfl rfl ?_
  refine Sq.assign .plain rfl rfl ?_
  refine Sq.nil ?_
  refine Eq.next ?_
  refine Cq.ret ?_
  refine Eq.ret1 rfl rfl ?_
  exact ⟨⟨_, _, _, rfl, by omega, hB4, hB11, hB19⟩, E⟩
set_option maxRecDepth 100000 in
theorem SplitSeq_c (s t : ByteArray) (w0 : World) : Ret Tryz.prog 48 #[Value.string s, Value.string t] w0 (fun v w => (∃ sb pb vb, v = .func (.func 77) #[] #[.pointer (some ⟨pb, 0, none⟩), .pointer (some ⟨sb, 0, none⟩), .pointer (some ⟨vb, 0, none⟩)] ∧ (w0.heap.size ≤ sb ∧ sb < pb ∧ pb < vb) ∧ Blk w sb 9 [.string s] ∧ Blk w pb 9 [.string t] ∧ Blk w vb 3 [.int .i64 0]) ∧ Ext w0 w) := by
  have E := Ext.refl w0
  refine Ret.of (args := [Value.string s, Value.string t]) Tryz.func48 rfl rfl rfl ?_
  rintro _ rfl
  show Cq _ _ _ _ [(0, Value.string s), (1, Value.string t)] _
  refine Cq.seq ?_
  refine Cq.region ?_
  refine Sq.assign .plain rfl rfl ?_
  refine Sq.nil ?_
  refine Eq.next ?_
  refine Cq.seq ?_
  refine Cq.region ?_
  refine Sq.move .plain rfl rfl ?_
  refine Sq.move .plain rfl rfl ?_
  refine Sq.call fn62 .plain rfl rfl (splitSeq_c s t _) ?_
  rintro v1 w2 ⟨⟨sb4, pb5, vb6, rfl, hlo7, hS8, hP9, hV10⟩, e3⟩
  have hs11 := Below.size E
  have hs12 := Below.size e3
  replace E := E.trans e3
  refine Sq.assign .plain rfl rfl ?_
  refine Sq.nil ?_
  refine Eq.next ?_
  refine Cq.ret ?_
  refine Eq.ret1 rfl rfl ?_
  exact ⟨⟨_, _, _, rfl, by omega, hS8, hP9, hV10⟩, E⟩
set_option maxRecDepth 100000 in
theorem iter_c (w0 : World) (lp sb pb vb : Nat) (s : ByteArray) (J : List ByteArray → ByteArray → World → Prop) (Jx : World → Prop) (hJ1 : ∀ xs r W, J xs r W → Blk W sb 9 [.string r] ∧ Blk W pb 9 [.string (⟨#[44]⟩ : ByteArray)] ∧ Blk W vb 3 [.int .i64 0])
    (hJ2 : ∀ xs r r' W W', J xs r W → W.grownBy W' (some sb) → Blk W' sb 9 [.string r'] → J xs r' W') (hY : ∀ xs r x W, J xs r W → (∃ ys, xs ++ x :: ys = cuts 44 s) → x.size ≤ s.size → YRet Tryz.prog lp (.string x) W (fun v W' => (v = .bool true ∧ J (xs ++ [x]) r W') ∨ (v = .bool false ∧ Jx W'))) (hs : s.size ≤ 2000000) (h0 : J [] s w0) : Ret Tryz.prog 77 #[Value.func (.yield lp) #[] #[], Value.pointer (some ⟨pb, 0, none⟩), Value.pointer (some ⟨sb, 0, none⟩), Value.pointer (some ⟨vb, 0, none⟩)] w0 (fun v w => v = .tuple #[] ∧ ((∃ r, J (cuts 44 s) r w) ∨ Jx w)) := by
  obtain ⟨hS, hP, hV⟩ := hJ1 _ _ _ h0
  have hz1 : ((⟨#[44]⟩ : ByteArray).size : Int) = 1 := rfl
  refine Ret.of (args := [Value.func (.yield lp) #[] #[], Value.pointer (some ⟨pb, 0, none⟩), Value.pointer (some ⟨sb, 0, none⟩), Value.pointer (some ⟨vb, 0, none⟩)]) Tryz.func77 rfl rfl rfl ?_
  rintro _ rfl
  show Cq _ _ _ _ [(0, Value.func (.yield lp) #[] #[]), (1, Value.pointer (some ⟨pb, 0, none⟩)), (2, Value.pointer (some ⟨sb, 0, none⟩)), (3, Value.pointer (some ⟨vb, 0, none⟩))] _
  refine Cq.seq ?_
  refine Cq.seq ?_
  refine Cq.region ?_
  refine Sq.loadB one9 .plain rfl rfl hP rfl ?_
  refine Sq.lenStr .plain rfl und9 rfl ?_
  refine Sq.eql .plain rfl rfl rfl ?_
  refine Sq.isF (by omega) ?_
  refine Sq.nil ?_
  refine Eq.next ?_
  refine Cq.els rfl ?_
  refine Cq.skip ?_
  refine Eq.next ?_
  refine Cq.seq ?_
  refine Cq.block ?_
  refine Cq.loop (fun nn w ls => ∃ (xs : List ByteArray), ∃ (r : ByteArray), ls = [(0, Value.func (.yield lp) #[] #[]), (1, Value.pointer (some ⟨pb, 0, none⟩)), (2, Value.pointer (some ⟨sb, 0, none⟩)), (3, Value.pointer (some ⟨vb, 0, none⟩))] ∧ J xs r w ∧ xs ++ cuts 44 r = cuts 44 s ∧ r.size ≤ s.size ∧ nn = r.size) _ _ ⟨[], s, rfl, h0, rfl, Nat.le_refl _, rfl⟩ (.cons rfl (.cons rfl (.cons rfl (.cons rfl (.nil))))) ?_
  rintro nn wl2 ls ⟨xs, r, rfl, hj, hx, hr, rfl⟩
  obtain ⟨hS, hP, hV⟩ := hJ1 _ _ _ hj
  refine Cq.block ?_
  refine Cq.seq ?_
  refine Cq.region ?_
  refine Sq.loadB one9 .plain rfl rfl hS rfl ?_
  refine Sq.loadB one9 .plain rfl rfl hP rfl ?_
  refine Sq.call fn61 .plain rfl rfl (index_c r _) ?_
  rintro _ _ ⟨rfl, rfl⟩
  refine Sq.assign .plain rfl rfl ?_
  refine Sq.nil ?_
  refine Eq.next ?_
  refine Cq.seq ?_
  refine Cq.seq ?_
  refine Cq.region ?_
  refine Sq.move .plain rfl rfl ?_
  refine Sq.lss .plain rfl rfl rfl ?_
  refine Sq.part (fun hi => ?_) (fun hi => ?_)
  · refine Sq.nil ?_
    refine Eq.next ?_
    refine Cq.thn rfl ?_
    refine Cq.exit ?_
    refine Eq.past ?_
    refine Eq.miss rfl ?_
    refine Eq.past ?_
    refine Eq.hit ?_
    refine Eq.next ?_
    have hge := Lib.indexByte_ge (bytesL r) 44
    have hcs := cuts_stop (c := 44) (s := r) (by omega)
    refine Cq.regionF ?_
    refine SqF.val rfl (fun c => by intro h; cases h) rfl rfl (Still.move rfl) ?_
    refine SqF.val rfl (fun c => by intro h; cases h) rfl rfl (Still.loadB one9 rfl hS rfl) ?_
    refine SqF.yield rfl rfl rfl (hY xs r r _ hj ⟨[], by rw [← hcs]; exact hx⟩ hr) ?_
    rintro _ w1 (⟨rfl, hj2⟩ | ⟨rfl, hjx⟩)
    · refine SqF.nil (EqF.ofEq ?_)
      refine Eq.fall0 rfl ?_
      exact ⟨rfl, .inl ⟨r, by rw [← hx, hcs]; exact hj2⟩⟩
    · refine SqF.nil (EqF.ofEq ?_)
      refine Eq.fall0 rfl ?_
      exact ⟨rfl, .inr hjx⟩
  · refine Sq.nil ?_
    refine Eq.next ?_
    refine Cq.els rfl ?_
    refine Cq.skip ?_
    refine Eq.next ?_
    refine Cq.seq ?_
    refine Cq.region ?_
    obtain ⟨i, hiN⟩ := Int.eq_ofNat_of_zero_le (a := (Lib.indexByte (bytesL r) 44)) (by omega)
    have hix := index_at hiN
    have hil : i < r.size := by have := hix.2.2; rw [bytesL_len] at this; exact this
    have hnx := cuts_next hiN
    have hfr : r.extract 0 ((Lib.indexByte (bytesL r) 44) + 0).toNat = r.extract 0 i := by rw [show ((Lib.indexByte (bytesL r) 44) + 0).toNat = i by omega]
    refine Sq.loadB one9 .plain rfl rfl hS rfl ?_
    refine Sq.move .plain rfl rfl ?_
    refine Sq.loadB one3 .plain rfl rfl hV rfl ?_
    refine Sq.add .plain rfl rfl rfl (by omega) ?_
    refine Sq.val .plain rfl rfl (Still.cutH und9 rfl rfl (by omega)) ?_
    refine Sq.assign .plain rfl rfl ?_
    refine Sq.nil ?_
    refine Eq.next ?_
    refine Cq.seq ?_
    refine Cq.seq ?_
    refine Cq.regionF ?_
    refine SqF.val rfl (fun c => by intro h; cases h) rfl rfl (Still.move rfl) ?_
    refine SqF.val rfl (fun c => by intro h; cases h) rfl rfl (Still.move rfl) ?_
    refine SqF.yield rfl rfl rfl (hY xs r _ _ hj ⟨cuts 44 (r.extract (i + 1) r.size), by rw [hfr, ← hnx]; exact hx⟩ (Nat.le_trans (size_cut _) hr)) ?_
    rintro _ w2 (⟨rfl, hj2⟩ | ⟨rfl, hjx⟩)
    · refine SqF.val rfl (fun c => by intro h; cases h) rfl rfl (Still.notT rfl) ?_
      refine SqF.nil (EqF.ofEq ?_)
      obtain ⟨hS, hP, hV⟩ := hJ1 _ _ _ hj2
      refine Eq.next ?_
      refine Cq.els rfl ?_
      refine Cq.skip ?_
      refine Eq.next ?_
      refine Cq.region ?_
      refine Sq.loadB one9 .plain rfl rfl hS rfl ?_
      refine Sq.move .plain rfl rfl ?_
      refine Sq.loadB one9 .plain rfl rfl hP rfl ?_
      refine Sq.lenStr .plain rfl und9 rfl ?_
      refine Sq.add .plain rfl rfl rfl (by omega) ?_
      refine Sq.val .plain rfl rfl (Still.cutL und9 rfl rfl (by omega)) ?_
      refine Sq.store one9 .plain rfl rfl rfl hS (by simp) (fun w3 g4 hB5 => ?_)
      have hs6 := World.grownBy.size g4
      replace hS := hB5
      refine Sq.nil ?_
      refine Eq.end ?_
      have hrx : r.extract ((Lib.indexByte (bytesL r) 44) + ((⟨#[44]⟩ : ByteArray).size : Int)).toNat r.size = r.extract (i + 1) r.size := by rw [show ((Lib.indexByte (bytesL r) 44) + ((⟨#[44]⟩ : ByteArray).size : Int)).toNat = i + 1 by omega]
      rw [hrx] at hS
      have hrs : (r.extract (i + 1) r.size).size = r.size - (i + 1) := by rw [ByteArray.size_extract]; omega
      refine Eq.round _ _ ⟨xs ++ [r.extract 0 ((Lib.indexByte (bytesL r) 44) + 0).toNat], r.extract (i + 1) r.size, rfl, hJ2 _ _ _ _ _ hj2 (by assumption) hS, by rw [List.append_assoc, hfr, List.singleton_append, ← hnx]; exact hx, Nat.le_trans (size_cut _) hr, rfl⟩ (by rw [hrs]; omega) (.cons rfl (.cons rfl (.cons rfl (.cons rfl (.nil)))))
    · refine SqF.val rfl (fun c => by intro h; cases h) rfl rfl (Still.notF rfl) ?_
      refine SqF.nil (EqF.ofEq ?_)
      refine Eq.next ?_
      refine Cq.thn rfl ?_
      refine Cq.ret ?_
      refine Eq.pastRet ?_
      refine Eq.outRet ?_
      refine Eq.pastRet ?_
      refine Eq.outRet ?_
      refine Eq.pastRet ?_
      refine Eq.ret0 rfl ?_
      exact ⟨rfl, .inr hjx⟩
theorem atoi_num : ∀ x : Fin 100, Lib.atoiAll (itoa (x.val : Int)).data.toList = .ok (x.val : Int) := by decide +kernel
theorem atoi_c (w0 : World) (s : ByteArray) (hs : s.size ≤ 2000000) (hE : ErrCell w0 2) (hE' : ErrCell w0 3) :
    Ret Tryz.prog 49 #[.string s] w0 (fun v w => (∃ n er ok, v = .tuple #[.int .i64 n, er] ∧ ((ok = true ∧ er = .nilIface) ∨ (ok = false ∧ ∃ te pe, er = .iface te pe)) ∧ NumP s ok n) ∧ Ext w0 w) := by
  have hno : ∀ x : Int, (0 ≤ x ∧ x < 100) → s = itoa x → Lib.atoiAll s.data.toList = .ok x := fun x hx e => by
    obtain ⟨n, rfl⟩ := num_fin hx
    rw [e]; exact atoi_num n
  by_cases hr : Lib.atoiAll s.data.toList = .range
  · obtain ⟨ev, h1, h2⟩ := hE'
    refine Calls.mono (Tryz.strconv_Atoi_range s (by omega) hr ev w0 h1 h2) fun e w ⟨m, he, _, _, hw⟩ => ⟨_, he, ⟨_, _, false, rfl, .inr ⟨rfl, _, _, rfl⟩, fun x hx ex => ?_⟩, hw⟩
    have := hno x hx ex
    rw [hr] at this
    cases this
  by_cases hk : ∃ u, Lib.atoiAll s.data.toList = .ok u
  · obtain ⟨u, h⟩ := hk
    refine Calls.mono (Tryz.strconv_Atoi_ok s (by omega) u h w0) fun e w ⟨he, hw⟩ => ⟨_, he, ⟨u, _, true, rfl, .inl ⟨rfl, rfl⟩, fun x hx ex => ⟨rfl, ?_⟩⟩, ?_⟩
    · have := hno x hx ex
      rw [h] at this
      injection this
    · rcases hw with rfl | ⟨t, rfl⟩
      · exact Ext.refl _
      · exact Lib.bytesWorld_below _ _ _
  obtain ⟨ev, h1, h2⟩ := hE
  refine Calls.mono (Tryz.strconv_Atoi_syntax s (by omega) ⟨fun u e => hk ⟨u, e⟩, hr⟩ ev w0 h1 h2) fun e w ⟨m, he, _, _, hw⟩ => ⟨_, he, ⟨_, _, false, rfl, .inr ⟨rfl, _, _, rfl⟩, fun x hx ex => (hk ⟨x, hno x hx ex⟩).elim⟩, hw⟩
end Go.Proofs.YtnckpafknojdhaaGreatDoor
set_option linter.unusedSimpArgs false
set_option linter.unusedVariables false
namespace Go.Proofs.YtnckpafknojdhaaGreatDoor
open Go.RowKit
def RJ (w0 : World) (B lp dn b2 b3 b4 sb pb vb : Nat) (r0 : Loop) (xs : List ByteArray) (r : ByteArray) (W : World) : Prop :=
  ∃ v ys, Blk W b2 36 [.slice none 0 0] ∧ Blk W b3 4 [.bool false] ∧ Blk W b4 36 [v] ∧ Blk W sb 9 [.string r] ∧ Blk W pb 9 [.string (⟨#[44]⟩ : ByteArray)] ∧ Blk W vb 3 [.int .i64 0] ∧ W.heap[lp]? = some (.loop r0) ∧ W.heap[dn]? = some (.deferred (some [])) ∧ Ext w0 W ∧ B ≤ W.heap.size ∧ Own W B 3 v (ys.map (Value.int .i64)) ∧ Nums xs ys
def RJx (w0 : World) (s : ByteArray) (lp dn b2 b3 : Nat) (r1 : Loop) (W : World) : Prop :=
  Blk W b2 36 [.slice none 0 0] ∧ Blk W b3 4 [.bool false] ∧ W.heap[lp]? = some (.loop r1) ∧ W.heap[dn]? = some (.deferred (some [])) ∧ Ext w0 W ∧ RowP s false []
set_option maxRecDepth 100000 in
theorem readEntries_c (s : ByteArray) (hs : s.size ≤ 2000000) (w0 : World) (hE : ErrCell w0 2) (hE' : ErrCell w0 3) : Ret Tryz.prog 26 #[Value.string s] w0 (fun v w => (∃ (r : Value) (ok : Bool) (xs : List Int), v = .tuple #[r, .bool ok] ∧ Own w w0.heap.size 3 r (xs.map (Value.int .i64)) ∧ RowP s ok xs) ∧ Ext w0 w) := by
  have E := Ext.refl w0
  refine Ret.ofM (args := [Value.string s]) Tryz.func26 rfl rfl rfl ?_
  rintro _ rfl
  show Cq _ _ _ _ [(0, Value.string s)] _
  refine Cq.seq ?_
  refine Cq.region ?_
  refine Sq.alloc1 zero36 rfl .plain rfl (fun b1 w2 e3 hB4 hlo5 => ?_)
  have hd6 := Nat.le_trans (Below.size E) hlo5
  have hs7 := Below.size e3
  replace E := E.trans e3
  refine Sq.alloc1 zero4 rfl .plain rfl (fun b8 w9 e10 hB11 hlo12 => ?_)
  have hd13 := Nat.le_trans (Below.size E) hlo12
  have hd14 := Nat.lt_of_lt_of_le hB4.lt hlo12
  have hs15 := Below.size e10
  replace E := E.trans e10
  replace hB4 := hB4.ext e10
  refine Sq.nil ?_
  refine Eq.next ?_
  refine Cq.seq ?_
  refine Cq.seq ?_
  refine Cq.region ?_
  refine Sq.move .plain rfl rfl ?_
  refine Sq.eqlS .plain rfl rfl rfl ?_
  refine Sq.part (fun hem => ?_) (fun hem => ?_)
  · refine Sq.nil ?_
    refine Eq.next ?_
    refine Cq.thn rfl ?_
    refine Cq.seq ?_
    refine Cq.region ?_
    refine Sq.store one36 .plain rfl rfl rfl hB4 (by simp) (fun w16 g17 hB18 => ?_)
    have hs19 := World.grownBy.size g17
    replace E := E.grown g17 (fun k hk => by injection hk with hk; subst hk; omega)
    replace hB11 := hB11.grown g17 (by intro h; injection h with h; omega)
    replace hB4 := hB18
    refine Sq.store one4 .plain rfl rfl rfl hB11 (by simp) (fun w20 g21 hB22 => ?_)
    have hs23 := World.grownBy.size g21
    replace E := E.grown g21 (fun k hk => by injection hk with hk; subst hk; omega)
    replace hB4 := hB4.grown g21 (by intro h; injection h with h; omega)
    replace hB11 := hB22
    refine Sq.nil ?_
    refine Eq.next ?_
    refine Cq.ret ?_
    refine Eq.pastRet ?_
    refine Eq.retM rfl one36 one4 rfl rfl hB4 hB11 ?_
    exact ⟨⟨_, true, [], rfl, Own.nil _ _ _, by rw [show s = ⟨#[]⟩ from bytes_ext hem]; exact RowP.nil⟩, E⟩
  · refine Sq.nil ?_
    refine Eq.next ?_
    refine Cq.els rfl ?_
    refine Cq.skip ?_
    refine Eq.next ?_
    refine Cq.seq ?_
    refine Cq.region ?_
    refine Sq.alloc1 zero36 rfl .plain rfl (fun b24 w25 e26 hB27 hlo28 => ?_)
    have hd29 := Nat.le_trans (Below.size E) hlo28
    have hd30 := Nat.lt_of_lt_of_le hB4.lt hlo28
    have hd31 := Nat.lt_of_lt_of_le hB11.lt hlo28
    have hs32 := Below.size e26
    replace E := E.trans e26
    replace hB4 := hB4.ext e26
    replace hB11 := hB11.ext e26
    refine Sq.nil ?_
    refine Eq.next ?_
    refine Cq.seq ?_
    refine Cq.seq ?_
    refine Cq.region ?_
    refine Sq.move .plain rfl rfl ?_
    have hd43 := hB4.lt
    have hd44 := hB11.lt
    have hd45 := hB27.lt
    refine Sq.call fn48 .plain rfl rfl (SplitSeq_c s (⟨#[44]⟩ : ByteArray) _) ?_
    rintro v33 w34 ⟨⟨sb36, pb37, vb38, rfl, hlo39, hS40, hP41, hV42⟩, e35⟩
    have hs46 := Below.size E
    have hs47 := Below.size e35
    replace E := E.trans e35
    replace hB4 := hB4.ext e35
    replace hB11 := hB11.ext e35
    replace hB27 := hB27.ext e35
    refine Sq.nil ?_
    refine Eq.next ?_
    refine Cq.block ?_
    have h0 : ¬ s = ⟨#[]⟩ := fun e => hem (by rw [e])
    have q2 := hB4.lt
    have q3 := hB11.lt
    have q4 := hB27.lt
    have qS := hS40.lt
    have qP := hP41.lt
    have qV := hV42.lt
    have qE := Below.size E
    refine Cq.range (lb := [.pointer (some ⟨pb37, 0, none⟩), .pointer (some ⟨sb36, 0, none⟩), .pointer (some ⟨vb38, 0, none⟩)]) rfl fn77 (fun fn tmps mk W1 hmk hst x1 hz hD hL => ?_)
    refine Ret.mono (iter_c W1 (w34.heap.size + 1) sb36 pb37 vb38 s (RJ w0 W1.heap.size (w34.heap.size + 1) w34.heap.size b1 b8 b24 sb36 pb37 vb38 (mk .ready none)) (RJx w0 s (w34.heap.size + 1) w34.heap.size b1 b8 (mk .done (some .ret)))
      (fun xs r W h => by obtain ⟨_, _, _, _, _, a, b, c, _⟩ := h; exact ⟨a, b, c⟩) ?_ ?_ hs ?_) ?_
    · rintro xs r r' W W' ⟨v, ys, k2, k3, k4, kS, kP, kV, kL, kD, kE, kB, kO, kN⟩ hg hS'
      replace k2 := keep_grown k2 hg (fun e => by injection e; omega)
      replace k3 := keep_grown k3 hg (fun e => by injection e; omega)
      replace k4 := keep_grown k4 hg (fun e => by injection e; omega)
      replace kP := keep_grown kP hg (fun e => by injection e; omega)
      replace kV := keep_grown kV hg (fun e => by injection e; omega)
      replace kL := keep_grown kL hg (fun e => by injection e; omega)
      replace kD := keep_grown kD hg (fun e => by injection e; omega)
      have kS := hS'
      replace kO := kO.grown hg (fun k hk e => by have := (kO.lt _ hk).1; injection e; omega)
      replace kE := Ext.grown kE hg (fun k hk => by injection hk; omega)
      have kB' := World.grownBy.size hg
      replace kB := Nat.le_trans kB kB'
      exact ⟨v, ys, k2, k3, k4, kS, kP, kV, kL, kD, kE, kB, kO, kN⟩
    · rintro xs r x W ⟨v, ys, k2, k3, k4, kS, kP, kV, kL, kD, kE, kB, kO, kN⟩ hx hxs
      have hlen : ys.length ≤ 2000001 := by obtain ⟨zs, hzs⟩ := hx; have h1 := congrArg List.length hzs; have h2 := cuts_len 44 s; have h3 := kN.1; rw [List.length_append, List.length_cons] at h1; omega
      refine YRet.of hmk kL hst rfl (fun m => ?_)
      refine CqF.region ?_
      refine SqF.val rfl (fun c => by intro h; cases h) rfl rfl (Still.assign rfl) ?_
      refine SqF.nil ?_
      refine EqF.begin hmk kL ?_
      have gp := grownBy_putObj' W (w34.heap.size + 1) (.loop (mk .busy none))
      have kL2 := World.putObj_heap_same (w := W) (o := .loop (mk .busy none)) (lt_of_block kL)
      replace k2 := keep_grown k2 gp (fun e => by injection e; omega)
      replace k3 := keep_grown k3 gp (fun e => by injection e; omega)
      replace k4 := keep_grown k4 gp (fun e => by injection e; omega)
      replace kS := keep_grown kS gp (fun e => by injection e; omega)
      replace kP := keep_grown kP gp (fun e => by injection e; omega)
      replace kV := keep_grown kV gp (fun e => by injection e; omega)
      replace kD := keep_grown kD gp (fun e => by injection e; omega)
      replace kE := Ext.grown kE gp (fun k hk => by injection hk; omega)
      replace kB := Nat.le_trans kB (World.grownBy.size gp)
      replace kO := kO.grown gp (fun k hk e => by have := (kO.lt _ hk).1; injection e; omega)
      replace kL := kL2
      refine CqF.block ?_
      refine CqF.seq ?_
      refine CqF.region ?_
      refine SqF.val rfl (fun c => by intro h; cases h) rfl rfl (Still.move rfl) ?_
      refine SqF.call fn49 rfl rfl (atoi_c _ x (by omega) (hE.ext kE) (hE'.ext kE)) ?_
      rintro _ w6 ⟨⟨n, er, ok, rfl, her, hnp⟩, x6⟩
      replace k2 := x6.heap k2
      replace k3 := x6.heap k3
      replace k4 := x6.heap k4
      replace kS := x6.heap kS
      replace kP := x6.heap kP
      replace kV := x6.heap kV
      replace kL := x6.heap kL
      replace kD := x6.heap kD
      replace kO := kO.ext x6
      replace kE := kE.trans x6
      replace kB := Nat.le_trans kB (Below.size x6)
      refine SqF.val rfl (fun c => by intro h; cases h) rfl rfl (Still.move rfl) ?_
      refine SqF.val rfl (fun c => by intro h; cases h) rfl rfl (Still.extract rfl rfl) ?_
      refine SqF.val rfl (fun c => by intro h; cases h) rfl rfl (Still.extract rfl rfl) ?_
      refine SqF.val rfl (fun c => by intro h; cases h) rfl rfl (Still.assign rfl) ?_
      refine SqF.val rfl (fun c => by intro h; cases h) rfl rfl (Still.assign rfl) ?_
      refine SqF.nil ?_
      refine EqF.next ?_
      refine CqF.seq ?_
      refine CqF.seq ?_
      refine CqF.region ?_
      rcases her with ⟨rfl, rfl⟩ | ⟨rfl, te, pe, rfl⟩
      · refine SqF.val rfl (fun c => by intro h; cases h) rfl rfl (Still.move rfl) ?_
        refine SqF.val rfl (fun c => by intro h; cases h) rfl rfl (Still.neqNil und62 rfl) ?_
        refine SqF.nil ?_
        refine EqF.next ?_
        refine CqF.els rfl ?_
        refine CqF.skip ?_
        refine EqF.next ?_
        refine CqF.region ?_
        refine SqF.val rfl (fun c => by intro h; cases h) rfl rfl (Still.loadB one36 rfl k4 rfl) ?_
        refine SqF.val rfl (fun c => by intro h; cases h) rfl rfl (Still.move rfl) ?_
        refine SqF.app1 sl36 kO kB (by rw [List.length_map]; omega) rfl rfl (fun _ => rfl) rfl rfl (fun lb v' w9 kO' g9 => ?_)
        replace k2 := keep_grown k2 g9 (fun e => by have := (kO.lt _ e).1; omega)
        replace k3 := keep_grown k3 g9 (fun e => by have := (kO.lt _ e).1; omega)
        replace k4 := keep_grown k4 g9 (fun e => by have := (kO.lt _ e).1; omega)
        replace kS := keep_grown kS g9 (fun e => by have := (kO.lt _ e).1; omega)
        replace kP := keep_grown kP g9 (fun e => by have := (kO.lt _ e).1; omega)
        replace kV := keep_grown kV g9 (fun e => by have := (kO.lt _ e).1; omega)
        replace kL := keep_grown kL g9 (fun e => by have := (kO.lt _ e).1; omega)
        replace kD := keep_grown kD g9 (fun e => by have := (kO.lt _ e).1; omega)
        replace kE := Ext.grown kE g9 (fun k hk => by have := (kO.lt _ hk).1; omega)
        replace kB := Nat.le_trans kB (World.grownBy.size g9)
        replace kO := kO'
        clear kO'
        refine SqF.unit rfl (fun c => by intro h; cases h) rfl (run_store1 one36 rfl rfl (Row.one (Own.row kO)) k4 (Nat.zero_lt_one)) ?_
        have gs := grown_setCell w9 b24 0 (v')
        have k4n := Blk.set k4 0 (v')
        generalize hw : w9.setCell ⟨b24, 0, none⟩ (v') = w9x at gs k4n ⊢
        replace k2 := keep_grown k2 gs (fun e => by injection e; omega)
        replace k3 := keep_grown k3 gs (fun e => by injection e; omega)
        replace kS := keep_grown kS gs (fun e => by injection e; omega)
        replace kP := keep_grown kP gs (fun e => by injection e; omega)
        replace kV := keep_grown kV gs (fun e => by injection e; omega)
        replace kL := keep_grown kL gs (fun e => by injection e; omega)
        replace kD := keep_grown kD gs (fun e => by injection e; omega)
        replace kE := Ext.grown kE gs (fun k hk => by injection hk; omega)
        replace kB := Nat.le_trans kB (World.grownBy.size gs)
        replace kO := kO.grown gs (fun k hk e => by have := (kO.lt _ hk).1; injection e; omega)
        replace k4 := k4n
        clear hw gs
        refine SqF.nil ?_
        refine EqF.end ?_
        refine EqF.round hmk kL ?_
        refine ⟨_, rfl, .inl ⟨rfl, ?_⟩⟩
        have gp := grownBy_putObj' w9x (w34.heap.size + 1) (.loop (mk .ready none))
        have kL2 := World.putObj_heap_same (w := w9x) (o := .loop (mk .ready none)) (lt_of_block kL)
        replace k2 := keep_grown k2 gp (fun e => by injection e; omega)
        replace k3 := keep_grown k3 gp (fun e => by injection e; omega)
        replace k4 := keep_grown k4 gp (fun e => by injection e; omega)
        replace kS := keep_grown kS gp (fun e => by injection e; omega)
        replace kP := keep_grown kP gp (fun e => by injection e; omega)
        replace kV := keep_grown kV gp (fun e => by injection e; omega)
        replace kD := keep_grown kD gp (fun e => by injection e; omega)
        replace kE := Ext.grown kE gp (fun k hk => by injection hk; omega)
        replace kB := Nat.le_trans kB (World.grownBy.size gp)
        replace kO := kO.grown gp (fun k hk e => by have := (kO.lt _ hk).1; injection e; omega)
        exact ⟨_, ys ++ [n], k2, k3, k4, kS, kP, kV, kL2, kD, kE, kB, by rw [List.map_append]; exact kO, kN.snoc hnp⟩
      · refine SqF.val rfl (fun c => by intro h; cases h) rfl rfl (Still.move rfl) ?_
        refine SqF.val rfl (fun c => by intro h; cases h) rfl rfl (Still.neqErr und62 rfl) ?_
        refine SqF.nil ?_
        refine EqF.next ?_
        refine CqF.thn rfl ?_
        refine CqF.seq ?_
        refine CqF.region ?_
        refine SqF.unit rfl (fun c => by intro h; cases h) rfl (run_store1 one36 rfl rfl rfl k2 (Nat.zero_lt_one)) ?_
        have gs := grown_setCell w6 b1 0 (Value.slice none 0 0)
        have k2n := Blk.set k2 0 (Value.slice none 0 0)
        generalize hw : w6.setCell ⟨b1, 0, none⟩ (Value.slice none 0 0) = w8a at gs k2n ⊢
        replace k3 := keep_grown k3 gs (fun e => by injection e; omega)
        replace k4 := keep_grown k4 gs (fun e => by injection e; omega)
        replace kS := keep_grown kS gs (fun e => by injection e; omega)
        replace kP := keep_grown kP gs (fun e => by injection e; omega)
        replace kV := keep_grown kV gs (fun e => by injection e; omega)
        replace kL := keep_grown kL gs (fun e => by injection e; omega)
        replace kD := keep_grown kD gs (fun e => by injection e; omega)
        replace kE := Ext.grown kE gs (fun k hk => by injection hk; omega)
        replace kB := Nat.le_trans kB (World.grownBy.size gs)
        replace kO := kO.grown gs (fun k hk e => by have := (kO.lt _ hk).1; injection e; omega)
        replace k2 := k2n
        clear hw gs
        refine SqF.unit rfl (fun c => by intro h; cases h) rfl (run_store1 one4 rfl rfl rfl k3 (Nat.zero_lt_one)) ?_
        have gs := grown_setCell w8a b8 0 (Value.bool false)
        have k3n := Blk.set k3 0 (Value.bool false)
        generalize hw : w8a.setCell ⟨b8, 0, none⟩ (Value.bool false) = w8x at gs k3n ⊢
        replace k2 := keep_grown k2 gs (fun e => by injection e; omega)
        replace k4 := keep_grown k4 gs (fun e => by injection e; omega)
        replace kS := keep_grown kS gs (fun e => by injection e; omega)
        replace kP := keep_grown kP gs (fun e => by injection e; omega)
        replace kV := keep_grown kV gs (fun e => by injection e; omega)
        replace kL := keep_grown kL gs (fun e => by injection e; omega)
        replace kD := keep_grown kD gs (fun e => by injection e; omega)
        replace kE := Ext.grown kE gs (fun k hk => by injection hk; omega)
        replace kB := Nat.le_trans kB (World.grownBy.size gs)
        replace kO := kO.grown gs (fun k hk e => by have := (kO.lt _ hk).1; injection e; omega)
        replace k3 := k3n
        clear hw gs
        refine SqF.nil ?_
        refine EqF.next ?_
        refine CqF.ret ?_
        refine EqF.pastRet ?_
        refine EqF.outRet ?_
        refine EqF.roundRet hmk kL ?_
        refine ⟨_, rfl, .inr ⟨rfl, ?_⟩⟩
        have gp := grownBy_putObj' w8x (w34.heap.size + 1) (.loop (mk .done (some .ret)))
        have kL2 := World.putObj_heap_same (w := w8x) (o := .loop (mk .done (some .ret))) (lt_of_block kL)
        replace k2 := keep_grown k2 gp (fun e => by injection e; omega)
        replace k3 := keep_grown k3 gp (fun e => by injection e; omega)
        replace k4 := keep_grown k4 gp (fun e => by injection e; omega)
        replace kS := keep_grown kS gp (fun e => by injection e; omega)
        replace kP := keep_grown kP gp (fun e => by injection e; omega)
        replace kV := keep_grown kV gp (fun e => by injection e; omega)
        replace kD := keep_grown kD gp (fun e => by injection e; omega)
        replace kE := Ext.grown kE gp (fun k hk => by injection hk; omega)
        replace kB := Nat.le_trans kB (World.grownBy.size gp)
        exact ⟨k2, k3, kL2, kD, kE, Nums.fail h0 hx hnp⟩
    · have gz := Below.size x1
      exact ⟨.slice none 0 0, [], x1.heap hB4, x1.heap hB11, x1.heap hB27, x1.heap hS40, x1.heap hP41, x1.heap hV42, hL, hD, E.trans x1, Nat.le_refl _, Own.nil _ _ _, Nums.nil⟩
    · rintro _ W3 ⟨rfl, (⟨r, v, ys, k2, k3, k4, kS, kP, kV, kL, kD, kE, kB, kO, kN⟩ | ⟨k2, k3, kL, kD, kE, kR⟩)⟩
      · refine ⟨.ready, none, kL, by decide, .inl ⟨rfl, ?_⟩⟩
        have gp := grownBy_putObj' W3 (w34.heap.size + 1) (.loop (mk .exhausted none))
        generalize hw : W3.putObj (w34.heap.size + 1) (.loop (mk .exhausted none)) = W4 at gp ⊢
        replace k2 := keep_grown k2 gp (fun e => by injection e; omega)
        replace k3 := keep_grown k3 gp (fun e => by injection e; omega)
        replace k4 := keep_grown k4 gp (fun e => by injection e; omega)
        replace kD := keep_grown kD gp (fun e => by injection e; omega)
        replace kE := Ext.grown kE gp (fun k hk => by injection hk; omega)
        replace kO := kO.grown gp (fun k hk e => by have := (kO.lt _ hk).1; injection e; omega)
        clear hw gp
        refine EqF.end ?_
        refine EqF.nextW ?_
        refine CqF.seq ?_
        refine CqF.region ?_
        refine SqF.val rfl (fun c => by intro h; cases h) rfl rfl (Still.loadB one36 rfl k4 rfl) ?_
        refine SqF.unit rfl (fun c => by intro h; cases h) rfl (run_store1 one36 rfl rfl (Row.one (Own.row kO)) k2 (Nat.zero_lt_one)) ?_
        have gs := grown_setCell W4 b1 0 (v)
        have k2n := Blk.set k2 0 (v)
        generalize hw : W4.setCell ⟨b1, 0, none⟩ (v) = W5 at gs k2n ⊢
        replace k3 := keep_grown k3 gs (fun e => by injection e; omega)
        replace k4 := keep_grown k4 gs (fun e => by injection e; omega)
        replace kD := keep_grown kD gs (fun e => by injection e; omega)
        replace kE := Ext.grown kE gs (fun k hk => by injection hk; omega)
        replace kO := kO.grown gs (fun k hk e => by have := (kO.lt _ hk).1; injection e; omega)
        replace k2 := k2n
        clear hw gs
        refine SqF.unit rfl (fun c => by intro h; cases h) rfl (run_store1 one4 rfl rfl rfl k3 (Nat.zero_lt_one)) ?_
        have gs := grown_setCell W5 b8 0 (Value.bool true)
        have k3n := Blk.set k3 0 (Value.bool true)
        generalize hw : W5.setCell ⟨b8, 0, none⟩ (Value.bool true) = W6 at gs k3n ⊢
        replace k2 := keep_grown k2 gs (fun e => by injection e; omega)
        replace k4 := keep_grown k4 gs (fun e => by injection e; omega)
        replace kD := keep_grown kD gs (fun e => by injection e; omega)
        replace kE := Ext.grown kE gs (fun k hk => by injection hk; omega)
        replace kO := kO.grown gs (fun k hk e => by have := (kO.lt _ hk).1; injection e; omega)
        replace k3 := k3n
        clear hw gs
        refine SqF.nil ?_
        refine EqF.next ?_
        refine CqF.ret ?_
        have gd := grownBy_putObj' W6 w34.heap.size (.deferred none)
        refine EqF.retM rfl one36 one4 rfl rfl k2 k3 (by omega) (by omega) kD ?_
        replace kO := (kO.grown gd (fun k hk e => by have := (kO.lt _ hk).1; injection e; omega)).mono (B' := w0.heap.size) (by omega)
        exact ⟨⟨v, true, ys, rfl, kO, Nums.row h0 kN⟩, Ext.grown kE gd (fun k hk => by injection hk; omega)⟩
      · refine ⟨.done, some .ret, kL, by decide, .inr ⟨rfl, ?_⟩⟩
        have gp := grownBy_putObj' W3 (w34.heap.size + 1) (.loop (mk .exhausted (some .ret)))
        generalize hw : W3.putObj (w34.heap.size + 1) (.loop (mk .exhausted (some .ret))) = W4 at gp ⊢
        replace k2 := keep_grown k2 gp (fun e => by injection e; omega)
        replace k3 := keep_grown k3 gp (fun e => by injection e; omega)
        replace kD := keep_grown kD gp (fun e => by injection e; omega)
        replace kE := Ext.grown kE gp (fun k hk => by injection hk; omega)
        clear hw gp
        refine EqF.outRet ?_
        refine EqF.pastRet ?_
        have gd := grownBy_putObj' W4 w34.heap.size (.deferred none)
        refine EqF.retM rfl one36 one4 rfl rfl k2 k3 (by omega) (by omega) kD ?_
        exact ⟨⟨_, false, [], rfl, Own.nil _ _ _, kR⟩, Ext.grown kE gd (fun k hk => by injection hk; omega)⟩
end Go.Proofs.YtnckpafknojdhaaGreatDoor
namespace Go.Proofs
open Go.Shelf Go.RowKit
def Tryz.lays156_ren : Go.Shelf.Ren := ⟨fun | 156 => 16 | 165 => 40 | 166 => 41 | 169 => 42 | 240 => 57 | 241 => 58 | 276 => 71 | 277 => 72 | n => n, fun | 31 => 37 | 9 => 9 | 3 => 3 | 4 => 4 | 0 => 0 | 20 => 20 | 72 => 59 | 76 => 63 | 70 => 57 | 37 => 22 | 75 => 62 | 127 => 79 | 164 => 92 | 5 => 5 | 80 => 65 | n => n, fun | n => n⟩
theorem Tryz.lays156 : Go.Proofs.Lays.n156 Tryz.prog Tryz.lays156_ren := {
  mixed := by kernel_rfl
  f156 := Tryz.func16.trans (congrArg some (by kernel_rfl))
  f165 := Tryz.func40.trans (congrArg some (by kernel_rfl))
  f166 := Tryz.func41.trans (congrArg some (by kernel_rfl))
  f169 := Tryz.func42.trans (congrArg some (by kernel_rfl))
  f240 := Tryz.func57.trans (congrArg some (by kernel_rfl))
  f241 := Tryz.func58.trans (congrArg some (by kernel_rfl))
  f276 := Tryz.func71.trans (congrArg some (by kernel_rfl))
  f277 := Tryz.func72.trans (congrArg some (by kernel_rfl))
  t0 := Tryz.underlying0
  a0 := Tryz.isAgg0
  z0 := Tryz.sizeOf0
  v0 := Tryz.zeroValue0
  t3 := Tryz.underlying3
  a3 := Tryz.isAgg3
  z3 := Tryz.sizeOf3
  v3 := Tryz.zeroValue3
  t4 := Tryz.underlying4
  a4 := Tryz.isAgg4
  z4 := Tryz.sizeOf4
  v4 := Tryz.zeroValue4
  t9 := Tryz.underlying9
  a9 := Tryz.isAgg9
  z9 := Tryz.sizeOf9
  v9 := Tryz.zeroValue9
  t20 := Tryz.underlying20
  a20 := Tryz.isAgg20
  z20 := Tryz.sizeOf20
  v20 := Tryz.zeroValue20
  t31 := Tryz.underlying37
  a31 := Tryz.isAgg37
  z31 := Tryz.sizeOf37
  v31 := Tryz.zeroValue37
  t37 := Tryz.underlying22
  a37 := Tryz.isAgg22
  z37 := Tryz.sizeOf22
  v37 := Tryz.zeroValue22
  t70 := Tryz.underlying57
  a70 := Tryz.isAgg57
  z70 := Tryz.sizeOf57
  v70 := Tryz.zeroValue57
  t72 := Tryz.underlying59
  a72 := Tryz.isAgg59
  z72 := Tryz.sizeOf59
  v72 := Tryz.zeroValue59
  t75 := Tryz.underlying62
  a75 := Tryz.isAgg62
  z75 := Tryz.sizeOf62
  v75 := Tryz.zeroValue62
  t76 := Tryz.underlying63
  a76 := Tryz.isAgg63
  z76 := Tryz.sizeOf63
  v76 := Tryz.zeroValue63
  t127 := Tryz.underlying79
  a127 := Tryz.isAgg79
  z127 := Tryz.sizeOf79
  v127 := Tryz.zeroValue79
  t164 := Tryz.underlying92
  a164 := Tryz.isAgg92
  z164 := Tryz.sizeOf92
  v164 := Tryz.zeroValue92 }
theorem Tryz.Builder_Extra_156 : Builder.Extra Tryz.prog Tryz.lays156_ren := {
  sizeBuilder := by kernel_rfl
  liesBuilder := by kernel_rfl
  t5 := Tryz.underlying5
  a5 := Tryz.isAgg5
  z5 := Tryz.sizeOf5
  v5 := Tryz.zeroValue5
  infoByte := by kernel_rfl
  cellsByte := by kernel_rfl
  sizeByte := by kernel_rfl
  neB5 := by decide }
theorem Tryz.strings_Join_none (a : Option Addr) (c : Nat) (sep : ByteArray) (w : World) :
    Calls Tryz.prog 16 #[.slice a 0 c, .string sep] w fun e w' => e = .returned (.string ⟨#[]⟩) ∧ w' = w := Any.strings_Join_none Tryz.lays156 Tryz.Builder_Extra_156 a c sep w
theorem Tryz.strings_Join (bk o c : Nat) (xs : List ByteArray) (sep : ByteArray) (w : World) (hcells : ∀ (j : Nat) x, xs[j]? = some x → w.cell? ⟨bk, o + j, none⟩ = some (.string x)) (hbk : bk < w.heap.size) (hN : xs.length ≤ 140737488355328) (hcap : xs.length ≤ c) (hlen : (Lib.join (xs.map (·.data.toList)) sep.data.toList).length ≤ 140737488355328) :
    Calls Tryz.prog 16 #[.slice (some ⟨bk, o, none⟩) xs.length c, .string sep] w fun e w' => e = .returned (.string ⟨(Lib.join (xs.map (·.data.toList)) sep.data.toList).toArray⟩) ∧ Below w.heap.size w w' := Any.strings_Join Tryz.lays156 Tryz.Builder_Extra_156 bk o c xs sep w hcells hbk hN hcap hlen
end Go.Proofs
set_option linter.unusedSimpArgs false
set_option linter.unusedVariables false
namespace Go.Proofs.YtnckpafknojdhaaGreatDoor
open Go.RowKit
set_option maxRecDepth 100000 in
theorem small_c (x : Int) (h : 0 ≤ x ∧ x < 100) (w0 : World) : Ret Tryz.prog 67 #[Value.int .i64 x] w0 (fun v w => v = .string (itoa x) ∧ w0 = w) := by
  refine Ret.of (args := [Value.int .i64 x]) Tryz.func67 rfl rfl rfl ?_
  rintro _ rfl
  show Cq _ _ _ _ [(0, Value.int .i64 x)] _
  refine Cq.seq ?_
  refine Cq.region ?_
  refine Sq.assign .plain rfl rfl ?_
  refine Sq.nil ?_
  refine Eq.next ?_
  refine Cq.seq ?_
  refine Cq.seq ?_
  refine Cq.region ?_
  refine Sq.move .plain rfl rfl ?_
  refine Sq.lss .plain rfl rfl rfl ?_
  refine Sq.part (fun h1 => ?_) (fun h1 => ?_)
  · refine Sq.nil ?_
    refine Eq.next ?_
    refine Cq.thn rfl ?_
    refine Cq.seq ?_
    refine Cq.region ?_
    refine Sq.move .plain rfl rfl ?_
    refine Sq.move .plain rfl rfl ?_
    refine Sq.add .plain rfl rfl rfl (by omega) ?_
    refine Sq.val .plain rfl rfl (Still.cutLH und9 rfl rfl rfl (by exact (show 0 ≤ x ∧ x ≤ (x + 1) ∧ (x + 1) ≤ ((36 : Nat) : Int) by omega))) ?_
    refine Sq.assign .plain rfl rfl ?_
    refine Sq.nil ?_
    refine Eq.next ?_
    refine Cq.ret ?_
    refine Eq.pastRet ?_
    refine Eq.ret1 rfl rfl ?_
    exact ⟨congrArg Value.string (dig_lt h.1 h1), rfl⟩
  refine Sq.nil ?_
  refine Eq.next ?_
  refine Cq.els rfl ?_
  refine Cq.skip ?_
  refine Eq.next ?_
  refine Cq.seq ?_
  refine Cq.region ?_
  refine Sq.move .plain rfl rfl ?_
  refine Sq.mul .plain rfl rfl rfl (by omega) ?_
  refine Sq.move .plain rfl rfl ?_
  refine Sq.mul .plain rfl rfl rfl (by omega) ?_
  refine Sq.add .plain rfl rfl rfl (by omega) ?_
  refine Sq.val .plain rfl rfl (Still.cutLH und9 rfl rfl rfl (by exact (show 0 ≤ (x * 2) ∧ (x * 2) ≤ (x * 2 + 2) ∧ (x * 2 + 2) ≤ ((200 : Nat) : Int) by omega))) ?_
  refine Sq.assign .plain rfl rfl ?_
  refine Sq.nil ?_
  refine Eq.next ?_
  refine Cq.ret ?_
  refine Eq.ret1 rfl rfl ?_
  exact ⟨congrArg Value.string (small_lt h1 h.2), rfl⟩
set_option maxRecDepth 100000 in
theorem fmtInt_c (x : Int) (h : 0 ≤ x ∧ x < 100) (w0 : World) : Ret Tryz.prog 56 #[Value.int .i64 x, Value.int .i64 10] w0 (fun v w => v = .string (itoa x) ∧ w0 = w) := by
  refine Ret.of (args := [Value.int .i64 x, Value.int .i64 10]) Tryz.func56 rfl rfl rfl ?_
  rintro _ rfl
  show Cq _ _ _ _ [(0, Value.int .i64 x), (1, Value.int .i64 10)] _
  refine Cq.seq ?_
  refine Cq.region ?_
  refine Sq.assign .plain rfl rfl ?_
  refine Sq.nil ?_
  refine Eq.next ?_
  refine Cq.seq ?_
  refine Cq.seq ?_
  refine Cq.region ?_
  refine Sq.move .plain rfl rfl ?_
  refine Sq.eql .plain rfl rfl rfl ?_
  refine Sq.isT (rfl) ?_
  refine Sq.nil ?_
  refine Eq.next ?_
  refine Cq.thn rfl ?_
  refine Cq.seq ?_
  refine Cq.seq ?_
  refine Cq.region ?_
  refine Sq.move .plain rfl rfl ?_
  refine Sq.leq .plain rfl rfl rfl ?_
  refine Sq.isT (by omega) ?_
  refine Sq.move .plain rfl rfl ?_
  refine Sq.move (.met rfl rfl rfl) rfl rfl ?_
  refine Sq.lss (.met rfl rfl rfl) rfl rfl rfl ?_
  refine Sq.isT (by omega) ?_
  refine Sq.pickT .plain rfl rfl rfl ?_
  refine Sq.nil ?_
  refine Eq.next ?_
  refine Cq.thn rfl ?_
  refine Cq.seq ?_
  refine Cq.region ?_
  refine Sq.move .plain rfl rfl ?_
  refine Sq.call fn67 .plain rfl rfl (small_c x (by omega) _) ?_
  rintro _ _ ⟨rfl, rfl⟩
  refine Sq.assign .plain rfl rfl ?_
  refine Sq.nil ?_
  refine Eq.next ?_
  refine Cq.ret ?_
  refine Eq.pastRet ?_
  refine Eq.pastRet ?_
  refine Eq.ret1 rfl rfl ?_
  exact ⟨rfl, rfl⟩
set_option maxRecDepth 100000 in
theorem itoaI_c (x : Int) (h : 0 ≤ x ∧ x < 100) (w0 : World) : Ret Tryz.prog 39 #[Value.int .i64 x] w0 (fun v w => v = .string (itoa x) ∧ w0 = w) := by
  refine Ret.of (args := [Value.int .i64 x]) Tryz.func39 rfl rfl rfl ?_
  rintro _ rfl
  show Cq _ _ _ _ [(0, Value.int .i64 x)] _
  refine Cq.seq ?_
  refine Cq.region ?_
  refine Sq.assign .plain rfl rfl ?_
  refine Sq.nil ?_
  refine Eq.next ?_
  refine Cq.seq ?_
  refine Cq.region ?_
  refine Sq.move .plain rfl rfl ?_
  refine Sq.call fn56 .plain rfl rfl (fmtInt_c x (by omega) _) ?_
  rintro _ _ ⟨rfl, rfl⟩
  refine Sq.assign .plain rfl rfl ?_
  refine Sq.nil ?_
  refine Eq.next ?_
  refine Cq.ret ?_
  refine Eq.ret1 rfl rfl ?_
  exact ⟨rfl, rfl⟩
set_option maxRecDepth 100000 in
theorem itoa_c (x : Int) (h : 0 ≤ x ∧ x < 100) (w0 : World) : Ret Tryz.prog 15 #[Value.int .i64 x] w0 (fun v w => v = .string (itoa x) ∧ w0 = w) := by
  refine Ret.of (args := [Value.int .i64 x]) Tryz.func15 rfl rfl rfl ?_
  rintro _ rfl
  show Cq _ _ _ _ [(0, Value.int .i64 x)] _
  refine Cq.seq ?_
  refine Cq.region ?_
  refine Sq.assign .plain rfl rfl ?_
  refine Sq.nil ?_
  refine Eq.next ?_
  refine Cq.seq ?_
  refine Cq.region ?_
  refine Sq.move .plain rfl rfl ?_
  refine Sq.call fn39 .plain rfl rfl (itoaI_c x (by omega) _) ?_
  rintro _ _ ⟨rfl, rfl⟩
  refine Sq.assign .plain rfl rfl ?_
  refine Sq.nil ?_
  refine Eq.next ?_
  refine Cq.ret ?_
  refine Eq.ret1 rfl rfl ?_
  exact ⟨rfl, rfl⟩
end Go.Proofs.YtnckpafknojdhaaGreatDoor
set_option linter.unusedSimpArgs false
set_option linter.unusedVariables false
namespace Go.Proofs.YtnckpafknojdhaaGreatDoor
open Go.RowKit
theorem join_c (w0 : World) (B : Nat) (r : Value) (row : List Int) (hr : Own w0 B 9 r ((row.map itoa).map Value.string)) (hn : row.length ≤ 1000) :
    Ret Tryz.prog 16 #[r, .string (⟨#[44]⟩ : ByteArray)] w0 (fun v w => v = .string (keyTx row) ∧ Ext w0 w) := by
  rcases hr.cases with ⟨rfl, h0⟩ | ⟨g, cap, cs, rfl, _, hb, h1, h2, h3, h4⟩
  · have h0' : row = [] := by simpa using h0
    subst h0'
    exact Calls.mono (Tryz.strings_Join_none none 0 _ w0) fun e w ⟨he, hw⟩ => ⟨_, he, rfl, hw ▸ Ext.refl w0⟩
  · have hl : ((row.map itoa).map Value.string).length = (row.map itoa).length := List.length_map _
    rw [hl] at h1 h4 ⊢
    have hz := keyTx_size _ row rfl
    refine Calls.mono (Tryz.strings_Join g 0 cap (row.map itoa) ⟨#[44]⟩ w0 (fun j x hx => ?_) hb.lt (by rw [List.length_map]; omega) h1 ?_) fun e w ⟨he, hw⟩ => ⟨_, he, ?_, hw⟩
    · rw [Nat.zero_add, hb.cell]
      have h5 : ((row.map itoa).map Value.string)[j]? = some (.string x) := by rw [List.getElem?_map, hx]; rfl
      rw [← h4, List.getElem?_take] at h5
      split at h5
      · exact h5
      · cases h5
    · show (Lib.join ((row.map itoa).map (·.data.toList)) [44]).length ≤ _
      rw [join_key, bytesL_len]
      omega
    · show Value.string ⟨(Lib.join ((row.map itoa).map (·.data.toList)) [44]).toArray⟩ = _
      rw [join_key]
      rfl
set_option maxRecDepth 100000 in
theorem fmtVI_c (w0 : World) (a : A) (nx ac : Value) (hnx : Rows w0 36 3 nx a.next) (hac : Bools w0 4 ac a.acc) : Ret Tryz.prog 5 #[Value.agg #[Value.int .i64 a.al, nx, ac]] w0 (fun v w => v = .string (fmtV a) ∧ Ext w0 w) := by
  have E := Ext.refl w0
  refine Ret.of (args := [Value.agg #[Value.int .i64 a.al, nx, ac]]) Tryz.func5 rfl rfl rfl ?_
  rintro _ rfl
  show Cq _ _ _ _ [(0, Value.agg #[Value.int .i64 a.al, nx, ac])] _
  refine Cq.seq ?_
  refine Cq.region ?_
  refine Sq.box .plain rfl rfl (fun b1 w2 e3 hB4 hlo5 => ?_)
  have hd6 := Nat.le_trans (Below.size E) hlo5
  have hs7 := Below.size e3
  replace E := E.trans e3
  refine Sq.assign .plain rfl rfl ?_
  refine Sq.nil ?_
  refine Eq.next ?_
  refine Cq.seq ?_
  refine Cq.seq ?_
  refine Cq.region ?_
  refine Sq.loadAgg agg26 .plain rfl rfl hB4 rfl ?_
  have hd11 := hB4.lt
  refine Sq.call fn6 .plain rfl rfl (valid_c _ a _ _ (hnx.ext E) (hac.ext E)) ?_
  rintro _ w9 ⟨rfl, e10⟩
  have hs12 := Below.size E
  have hs13 := Below.size e10
  replace E := E.trans e10
  replace hB4 := hB4.ext e10
  refine Sq.partB (fun hv => ?_) (fun hv => ?_)
  · refine Sq.notT .plain rfl rfl ?_
    refine Sq.nil ?_
    refine Eq.next ?_
    refine Cq.els rfl ?_
    refine Cq.skip ?_
    refine Eq.next ?_
    refine Cq.seq ?_
    refine Cq.region ?_
    refine Sq.fieldAddr fld26_0 .plain rfl rfl ?_
    refine Sq.loadB one3 .plain rfl rfl hB4 rfl ?_
    have hd17 := hB4.lt
    refine Sq.call fn14 .plain rfl rfl (fmtAlI_c a.al _) ?_
    rintro _ w15 ⟨rfl, e16⟩
    have hs18 := Below.size E
    have hs19 := Below.size e16
    replace E := E.trans e16
    replace hB4 := hB4.ext e16
    refine Sq.assign .plain rfl rfl ?_
    refine Sq.nil ?_
    refine Eq.next ?_
    refine Cq.seq ?_
    refine Cq.seq ?_
    refine Cq.region ?_
    refine Sq.fieldAddr fld26_1 .plain rfl rfl ?_
    refine Sq.loadB one23 .plain rfl rfl hB4 rfl ?_
    refine Sq.lenRows (hnx.ext E) .plain rfl und23 rfl ?_
    refine Sq.move .plain rfl rfl ?_
    refine Sq.nil ?_
    refine Eq.next ?_
    refine Cq.block ?_
    have hvs := validA_spec.1 hv
    have hv1 := hvs.2.1
    have hv2 := hvs.2.2.1
    have hl6 := letters_len6 a.al
    refine Cq.loop (fun nn w ls => ∃ (i : Int), ∃ (t : ByteArray), ls = [(1, Value.pointer (some ⟨b1, 0, none⟩)), (3, Value.string t), (17, nx), (18, Value.int .i64 (List.length a.next : Int)), (19, Value.int .i64 i)] ∧ (0 ≤ i ∧ i ≤ a.next.length) ∧ t = fmtFrom a i.toNat ∧ Ext w0 w ∧ Blk w b1 26 [Value.int .i64 a.al, nx, ac] ∧ nn = ((a.next.length : Int) - i).toNat) _ _ ⟨0, _, rfl, by omega, rfl, E, hB4, rfl⟩ (.cons rfl (.cons rfl (.cons rfl (.cons rfl (.cons rfl (.nil)))))) ?_
    rintro nn wl1 ls ⟨i, t, rfl, hi, ht, E, hB4, rfl⟩
    have hs20 := Below.size E
    have hts := fmtFrom_size hv i.toNat (by omega)
    rw [← ht] at hts
    have hrl := valid_row hv (k := i.toNat)
    refine Cq.seq ?_
    refine Cq.region ?_
    refine Sq.lss .plain rfl rfl rfl ?_
    refine Sq.part (fun c21 => ?_) (fun c21 => ?_)
    · refine Sq.nil ?_
      refine Eq.next ?_
      refine Cq.seq ?_
      refine Cq.thn rfl ?_
      refine Cq.skip ?_
      refine Eq.next ?_
      refine Cq.seq ?_
      refine Cq.block ?_
      refine Cq.seq ?_
      refine Cq.region ?_
      refine Sq.move .plain rfl rfl ?_
      refine Sq.idxRows sl23 one36 (hnx.ext E) .plain rfl rfl rfl .plain rfl rfl (by omega) (by omega) (fun r22 hr23 => ?_)
      refine Sq.assign .plain rfl rfl ?_
      refine Sq.assign .plain rfl rfl ?_
      refine Sq.nil ?_
      refine Eq.next ?_
      refine Cq.seq ?_
      refine Cq.region ?_
      refine Sq.move .plain rfl rfl ?_
      refine Sq.lenInts hr23 .plain rfl und36 rfl ?_
      refine Sq.make sl37 .plain rfl rfl rfl rfl (by omega) (fun b24 w25 e26 hlo27 hB28 => ?_)
      replace hB28 := hB28 wl1.heap.size (Nat.le_refl _)
      have hs29 := Below.size e26
      replace E := E.trans e26
      replace hB4 := hB4.ext e26
      replace hr23 := hr23.ext e26
      refine Sq.assign .plain rfl rfl ?_
      refine Sq.nil ?_
      refine Eq.next ?_
      refine Cq.seq ?_
      refine Cq.seq ?_
      refine Cq.region ?_
      refine Sq.move .plain rfl rfl ?_
      refine Sq.lenInts hr23 .plain rfl und36 rfl ?_
      refine Sq.move .plain rfl rfl ?_
      refine Sq.nil ?_
      refine Eq.next ?_
      refine Cq.block ?_
      have hrl2 := hrl (by omega)
      refine Cq.loop (fun nn w ls => ∃ (k : Int), ls = [(1, Value.pointer (some ⟨b1, 0, none⟩)), (3, Value.string t), (4, Value.int .i64 i), (5, r22), (6, Value.slice (some ⟨b24, 0, none⟩) ((List.length (a.next.getD i.toNat []) : Int)).toNat ((List.length (a.next.getD i.toNat []) : Int)).toNat), (17, nx), (18, Value.int .i64 (List.length a.next : Int)), (19, Value.int .i64 i), (27, r22), (28, Value.int .i64 ((List.length (a.next.getD i.toNat []) : Int))), (29, Value.int .i64 k)] ∧ (0 ≤ k ∧ k ≤ (a.next.getD i.toNat []).length) ∧ Own w wl1.heap.size 9 (Value.slice (some ⟨b24, 0, none⟩) ((List.length (a.next.getD i.toNat []) : Int)).toNat ((List.length (a.next.getD i.toNat []) : Int)).toNat) ((entTo (a.next.getD i.toNat []) k.toNat).map Value.string) ∧ Ext w0 w ∧ Blk w b1 26 [Value.int .i64 a.al, nx, ac] ∧ Ints w 3 r22 (a.next.getD i.toNat []) ∧ nn = (((a.next.getD i.toNat []).length : Int) - k).toNat) _ _ ⟨0, rfl, by omega, by rw [show (0 : Int).toNat = 0 from rfl, entTo_zero, List.map_replicate]; exact hB28, E, hB4, hr23, rfl⟩ (.cons rfl (.cons rfl (.cons rfl (.cons rfl (.cons rfl (.cons rfl (.cons rfl (.cons rfl (.cons rfl (.cons rfl (.cons rfl (.nil)))))))))))) ?_
      rintro nn wl2 ls ⟨k, rfl, hk, hen, E, hB4, hr23, rfl⟩
      have hs30 := Below.size E
      have hens := valid_at hv (k := i.toNat) (j := k.toNat)
      have hel := entTo_length (row := (a.next.getD i.toNat [])) (k := k.toNat) (by omega)
      refine Cq.seq ?_
      refine Cq.region ?_
      refine Sq.lss .plain rfl rfl rfl ?_
      refine Sq.part (fun c31 => ?_) (fun c31 => ?_)
      · refine Sq.nil ?_
        refine Eq.next ?_
        refine Cq.seq ?_
        refine Cq.thn rfl ?_
        refine Cq.skip ?_
        refine Eq.next ?_
        refine Cq.seq ?_
        refine Cq.block ?_
        refine Cq.seq ?_
        refine Cq.region ?_
        refine Sq.move .plain rfl rfl ?_
        refine Sq.idxInts sl36 one3 hr23 .plain rfl rfl rfl .plain rfl rfl (by omega) (by omega) ?_
        refine Sq.assign .plain rfl rfl ?_
        refine Sq.assign .plain rfl rfl ?_
        refine Sq.nil ?_
        refine Eq.next ?_
        refine Cq.region ?_
        refine Sq.move .plain rfl rfl ?_
        refine Sq.move .plain rfl rfl ?_
        refine Sq.move .plain rfl rfl ?_
        have hen2 := hens (by omega) (by omega)
        refine Sq.call fn15 .plain rfl rfl (itoa_c ((a.next.getD i.toNat []).getD k.toNat 0) (by omega) _) ?_
        rintro _ _ ⟨rfl, rfl⟩
        obtain ⟨p32, hp33o⟩ := Own.at hen (i := k) (by omega) (by first | (simp only [List.length_map]; omega) | (simp; omega))
        refine Sq.atO sl37 hp33o .plain rfl rfl rfl ?_
        refine Sq.storeO one9 hen hp33o .plain rfl rfl rfl (fun w34 g35 ho36 => ?_)
        have hs37 := World.grownBy.size g35
        replace E := E.owned hen g35 (by omega)
        replace hB4 := hB4.owned hen g35 (by decide)
        replace hr23 := hr23.owned hen g35 (by decide)
        replace hen := ho36
        refine Sq.nil ?_
        refine Eq.end ?_
        refine Eq.next ?_
        refine Cq.region ?_
        refine Sq.add .plain rfl rfl rfl (by omega) ?_
        refine Sq.move .plain rfl rfl ?_
        refine Sq.nil ?_
        have e2 := toNat_succ hk.1
        refine Eq.round _ _ ⟨k + 1, rfl, by omega, by rw [e2, ← entTo_step (by omega), List.map_set]; exact hen, E, hB4, hr23, rfl⟩ (by omega) (.cons rfl (.cons rfl (.cons rfl (.cons rfl (.cons rfl (.cons rfl (.cons rfl (.cons rfl (.cons rfl (.cons rfl (.cons rfl (.nil))))))))))))
      refine Sq.nil ?_
      refine Eq.next ?_
      refine Cq.seq ?_
      refine Cq.els rfl ?_
      refine Cq.exit ?_
      refine Eq.past ?_
      refine Eq.past ?_
      refine Eq.hit ?_
      refine Eq.next ?_
      refine Cq.seq ?_
      refine Cq.region ?_
      refine Sq.assign .plain rfl rfl ?_
      refine Sq.nil ?_
      refine Eq.next ?_
      refine Cq.seq ?_
      refine Cq.seq ?_
      refine Cq.region ?_
      refine Sq.fieldAddr fld26_2 .plain rfl rfl ?_
      refine Sq.loadB one24 .plain rfl rfl hB4 rfl ?_
      refine Sq.move .plain rfl rfl ?_
      refine Sq.idxBools sl24 one4 (hac.ext E) .plain rfl rfl rfl .plain rfl rfl (by omega) (by omega) ?_
      refine Sq.partB (fun hac => ?_) (fun hac => ?_)
      · refine Sq.nil ?_
        refine Eq.next ?_
        refine Cq.thn rfl ?_
        refine Cq.region ?_
        refine Sq.assign .plain rfl rfl ?_
        refine Sq.nil ?_
        refine Eq.next ?_
        refine Cq.region ?_
        refine Sq.move .plain rfl rfl ?_
        refine Sq.move .plain rfl rfl ?_
        refine Sq.move .plain rfl rfl ?_
        rw [entTo_done (by omega)] at hen
        have hd41 := hB4.lt
        refine Sq.call fn16 .plain rfl rfl (join_c _ _ _ (a.next.getD i.toNat []) hen (by omega)) ?_
        rintro _ w39 ⟨rfl, e40⟩
        have hs42 := Below.size E
        have hs43 := Below.size e40
        replace E := E.trans e40
        replace hB4 := hB4.ext e40
        refine Sq.cat .plain rfl rfl rfl (by have hkz := keyTx_size _ (a.next.getD i.toNat []) rfl; show 2 + (keyTx (a.next.getD i.toNat [])).size ≤ _; omega) ?_
        refine Sq.cat .plain rfl rfl rfl (by have hkz := keyTx_size _ (a.next.getD i.toNat []) rfl; rw [size_cat]; show t.size + (2 + (keyTx (a.next.getD i.toNat [])).size) ≤ _; omega) ?_
        refine Sq.assign .plain rfl rfl ?_
        refine Sq.nil ?_
        refine Eq.end ?_
        refine Eq.next ?_
        refine Cq.region ?_
        refine Sq.add .plain rfl rfl rfl (by omega) ?_
        refine Sq.move .plain rfl rfl ?_
        refine Sq.nil ?_
        have e1 := toNat_succ hi.1
        refine Eq.round _ _ ⟨i + 1, _, rfl, by omega, by rw [e1, fmtFrom, rowFrom_list, ← ht, ← cat3, hac]; rfl, E, hB4, rfl⟩ (by omega) (.cons rfl (.cons rfl (.cons rfl (.cons rfl (.cons rfl (.nil))))))
      refine Sq.nil ?_
      refine Eq.next ?_
      refine Cq.els rfl ?_
      refine Cq.skip ?_
      refine Eq.next ?_
      refine Cq.region ?_
      refine Sq.move .plain rfl rfl ?_
      refine Sq.move .plain rfl rfl ?_
      refine Sq.move .plain rfl rfl ?_
      rw [entTo_done (by omega)] at hen
      have hd47 := hB4.lt
      refine Sq.call fn16 .plain rfl rfl (join_c _ _ _ (a.next.getD i.toNat []) hen (by omega)) ?_
      rintro _ w45 ⟨rfl, e46⟩
      have hs48 := Below.size E
      have hs49 := Below.size e46
      replace E := E.trans e46
      replace hB4 := hB4.ext e46
      refine Sq.cat .plain rfl rfl rfl (by have hkz := keyTx_size _ (a.next.getD i.toNat []) rfl; show 2 + (keyTx (a.next.getD i.toNat [])).size ≤ _; omega) ?_
      refine Sq.cat .plain rfl rfl rfl (by have hkz := keyTx_size _ (a.next.getD i.toNat []) rfl; rw [size_cat]; show t.size + (2 + (keyTx (a.next.getD i.toNat [])).size) ≤ _; omega) ?_
      refine Sq.assign .plain rfl rfl ?_
      refine Sq.nil ?_
      refine Eq.end ?_
      refine Eq.next ?_
      refine Cq.region ?_
      refine Sq.add .plain rfl rfl rfl (by omega) ?_
      refine Sq.move .plain rfl rfl ?_
      refine Sq.nil ?_
      have e1 := toNat_succ hi.1
      refine Eq.round _ _ ⟨i + 1, _, rfl, by omega, by rw [e1, fmtFrom, rowFrom_list, ← ht, ← cat3, hac]; rfl, E, hB4, rfl⟩ (by omega) (.cons rfl (.cons rfl (.cons rfl (.cons rfl (.cons rfl (.nil))))))
    refine Sq.nil ?_
    refine Eq.next ?_
    refine Cq.seq ?_
    refine Cq.els rfl ?_
    refine Cq.exit ?_
    refine Eq.past ?_
    refine Eq.past ?_
    refine Eq.hit ?_
    refine Eq.next ?_
    refine Cq.seq ?_
    refine Cq.region ?_
    refine Sq.move .plain rfl rfl ?_
    refine Sq.assign .plain rfl rfl ?_
    refine Sq.nil ?_
    refine Eq.next ?_
    refine Cq.ret ?_
    refine Eq.ret1 rfl rfl ?_
    exact ⟨by rw [fmtV_yes hv (i := i.toNat) (by omega), ht], E⟩
  refine Sq.notF .plain rfl rfl ?_
  refine Sq.nil ?_
  refine Eq.next ?_
  refine Cq.thn rfl ?_
  refine Cq.seq ?_
  refine Cq.region ?_
  refine Sq.assign .plain rfl rfl ?_
  refine Sq.nil ?_
  refine Eq.next ?_
  refine Cq.ret ?_
  refine Eq.pastRet ?_
  refine Eq.ret1 rfl rfl ?_
  exact ⟨by rw [fmtV_no hv], E⟩
end Go.Proofs.YtnckpafknojdhaaGreatDoor
set_option linter.unusedSimpArgs false
set_option linter.unusedVariables false
namespace Go.Proofs.YtnckpafknojdhaaGreatDoor
open Go.RowKit
set_option maxHeartbeats 2000000 in
set_option maxRecDepth 100000 in
theorem parseAI_c (s : ByteArray) (hs : s.size ≤ 2000000) (w0 : World) (hE : ErrCell w0 2) (hE' : ErrCell w0 3) : Ret Tryz.prog 9 #[Value.string s] w0 (fun v w => (∃ (u : Value) (ok : Bool) (a : A), v = .tuple #[u, .bool ok] ∧ OwnA w w0.heap.size u a ∧ Parsed s ok a) ∧ Ext w0 w) := by
  have E := Ext.refl w0
  refine Ret.of (args := [Value.string s]) Tryz.func9 rfl rfl rfl ?_
  rintro _ rfl
  show Cq _ _ _ _ [(0, Value.string s)] _
  refine Cq.seq ?_
  refine Cq.region ?_
  refine Sq.alloc zero26 .plain rfl (fun b1 w2 e3 hB4 hlo5 => ?_)
  have hd6 := Nat.le_trans (Below.size E) hlo5
  have hs7 := Below.size e3
  replace E := E.trans e3
  refine Sq.assign .plain rfl rfl ?_
  refine Sq.nil ?_
  refine Eq.next ?_
  refine Cq.seq ?_
  refine Cq.region ?_
  refine Sq.move .plain rfl rfl ?_
  have hd12 := hB4.lt
  refine Sq.call fn24 .plain rfl rfl (split_c s (by omega) _) ?_
  rintro v8 w9 ⟨ho11, e10⟩
  have hs13 := Below.size E
  have hs14 := Below.size e10
  replace E := E.trans e10
  replace hB4 := hB4.ext e10
  refine Sq.assign .plain rfl rfl ?_
  refine Sq.nil ?_
  refine Eq.next ?_
  refine Cq.seq ?_
  refine Cq.region ?_
  refine Sq.move .plain rfl rfl ?_
  refine Sq.idxStrs sl37 one9 (Own.row ho11) .plain rfl rfl rfl .plain rfl rfl (by have := cuts_ne 32 s; omega) (by have := cuts_ne 32 s; omega) ?_
  have hd22 := hB4.lt
  refine Sq.call fn25 .plain rfl rfl (parseAlI_c (((cuts 32 s).getD (0 : Int).toNat ByteArray.empty)) (Nat.le_trans (cuts_mem (getD_mem (by have := cuts_ne 32 s; omega))) hs) _) ?_
  rintro _ w16 ⟨⟨n18, ok19, rfl, hn20, hap21⟩, e17⟩
  have hs23 := Below.size E
  have hs24 := Below.size e17
  replace E := E.trans e17
  replace hB4 := hB4.ext e17
  replace ho11 := ho11.ext e17
  refine Sq.move .plain rfl rfl ?_
  refine Sq.extract .plain rfl rfl rfl ?_
  refine Sq.extract .plain rfl rfl rfl ?_
  refine Sq.assign .plain rfl rfl ?_
  refine Sq.assign .plain rfl rfl ?_
  refine Sq.nil ?_
  refine Eq.next ?_
  refine Cq.seq ?_
  refine Cq.seq ?_
  refine Cq.region ?_
  refine Sq.move .plain rfl rfl ?_
  refine Sq.partB (fun hok => ?_) (fun hok => ?_)
  · refine Sq.notT .plain rfl rfl ?_
    refine Sq.move .plain rfl rfl ?_
    refine Sq.move (.met rfl rfl rfl) rfl rfl ?_
    refine Sq.lenStrs (Own.row ho11) (.met rfl rfl rfl) rfl und37 rfl ?_
    refine Sq.gtr (.met rfl rfl rfl) rfl rfl rfl ?_
    refine Sq.part (fun hmany => ?_) (fun hmany => ?_)
    · refine Sq.pickF .plain rfl rfl rfl ?_
      refine Sq.nil ?_
      refine Eq.next ?_
      refine Cq.thn rfl ?_
      refine Cq.seq ?_
      refine Cq.region ?_
      refine Sq.build st26 rfl rfl .plain rfl rfl one_nil rfl ?_
      refine Sq.storeAgg agg26 .plain rfl rfl (one_cons rfl (one_cons rfl (one_cons rfl one_nil))) hB4 rfl rfl (fun w25 g26 hB27 => ?_)
      have hs28 := World.grownBy.size g26
      replace E := E.grown g26 (fun k hk => by injection hk with hk; subst hk; omega)
      replace hB4 := hB27
      refine Sq.assign .plain rfl rfl ?_
      refine Sq.nil ?_
      refine Eq.next ?_
      refine Cq.ret ?_
      refine Eq.pastRet ?_
      refine Eq.retCell2 rfl rfl agg26 hB4 rfl rfl ?_
      exact ⟨⟨_, _, zeroA, rfl, ⟨_, _, rfl, OwnRows.nil _ _ _ _ _, Own.nil _ _ _⟩, Parsed.no fun b hvb hsb => Agr.many (by omega) hvb hsb⟩, E⟩
    refine Sq.pickF .plain rfl rfl rfl ?_
    refine Sq.nil ?_
    refine Eq.next ?_
    refine Cq.els rfl ?_
    refine Cq.skip ?_
    refine Eq.next ?_
    refine Cq.seq ?_
    refine Cq.region ?_
    refine Sq.move .plain rfl rfl ?_
    refine Sq.build st26 rfl rfl .plain rfl rfl (one_cons rfl one_nil) rfl ?_
    refine Sq.alloc zero26 .plain rfl (fun b29 w30 e31 hB32 hlo33 => ?_)
    have hd34 := Nat.le_trans (Below.size E) hlo33
    have hd35 := Nat.lt_of_lt_of_le hB4.lt hlo33
    have hs36 := Below.size e31
    replace E := E.trans e31
    replace hB4 := hB4.ext e31
    replace ho11 := ho11.ext e31
    refine Sq.storeAgg agg26 .plain rfl rfl (one_cons rfl (one_cons rfl (one_cons rfl one_nil))) hB32 rfl rfl (fun w37 g38 hB39 => ?_)
    have hs40 := World.grownBy.size g38
    replace E := E.grown g38 (fun k hk => by injection hk with hk; subst hk; omega)
    replace hB4 := hB4.grown g38 (by intro h; injection h with h; omega)
    replace ho11 := ho11.stored g38 hB32 (by decide)
    replace hB32 := hB39
    refine Sq.nil ?_
    refine Eq.next ?_
    refine Cq.seq ?_
    refine Cq.seq ?_
    refine Cq.region ?_
    refine Sq.move .plain rfl rfl ?_
    have hcl := cuts_len 32 s
    have hc1 := cuts_ne 32 s
    have hdl : ((cuts 32 s).drop 1).length = (cuts 32 s).length - 1 := List.length_drop
    refine Sq.cutOwn sl37 ho11 (by rw [List.length_map]; exact hc1) .plain rfl rfl rfl (fun v41 hW => ?_)
    rw [← List.map_drop] at hW
    refine Sq.lenStrs hW .plain rfl und37 rfl ?_
    refine Sq.move .plain rfl rfl ?_
    refine Sq.nil ?_
    refine Eq.next ?_
    refine Cq.block ?_
    refine Cq.loop (fun nn w ls => ∃ (k : Int), ∃ (nxv : Value), ∃ (acv : Value), ∃ (xss : List (List Int)), ∃ (ys : List Bool), ls = [(0, Value.string s), (2, Value.pointer (some ⟨b1, 0, none⟩)), (7, Value.pointer (some ⟨b29, 0, none⟩)), (32, v41), (33, Value.int .i64 ((List.length ((cuts 32 s).drop 1) : Int))), (34, Value.int .i64 k)] ∧ (0 ≤ k ∧ k ≤ ((cuts 32 s).drop 1).length) ∧ Blk w b29 26 [Value.int .i64 n18, nxv, acv] ∧ OwnRows w w0.heap.size w.heap.size 36 3 nxv xss ∧ Own w w0.heap.size 4 acv (ys.map Value.bool) ∧ ((xss.length : Int) = k ∧ (ys.length : Int) = k) ∧ Agr s n18 k.toNat xss ys ∧ Ext w0 w ∧ Blk w b1 26 [Value.int .i64 0, Value.slice none 0 0, Value.slice none 0 0] ∧ Strs w 9 v41 ((cuts 32 s).drop 1) ∧ nn = ((((cuts 32 s).drop 1).length : Int) - k).toNat) _ _ ⟨0, _, _, [], [], rfl, by omega, hB32, OwnRows.nil _ _ _ _ _, Own.nil _ _ _, by simp, Agr.start hap21, E, hB4, hW, rfl⟩ (.cons rfl (.cons rfl (.cons rfl (.cons rfl (.cons rfl (.cons rfl (.nil))))))) ?_
    rintro nn wl1 ls ⟨k, nxv, acv, xss, ys, rfl, hk, hB7, hor, hoa, hxl, hag, E, hB4, hW, rfl⟩
    have hs42 := Below.size E
    refine Cq.seq ?_
    refine Cq.region ?_
    refine Sq.lss .plain rfl rfl rfl ?_
    refine Sq.part (fun c43 => ?_) (fun c43 => ?_)
    · refine Sq.nil ?_
      refine Eq.next ?_
      refine Cq.seq ?_
      refine Cq.thn rfl ?_
      refine Cq.skip ?_
      refine Eq.next ?_
      refine Cq.seq ?_
      refine Cq.block ?_
      refine Cq.seq ?_
      refine Cq.region ?_
      refine Sq.idxStrs sl37 one9 hW .plain rfl rfl rfl .plain rfl rfl (by omega) (by omega) ?_
      refine Sq.assign .plain rfl rfl ?_
      refine Sq.nil ?_
      refine Eq.next ?_
      refine Cq.seq ?_
      refine Cq.seq ?_
      refine Cq.region ?_
      refine Sq.move .plain rfl rfl ?_
      refine Sq.eqlS .plain rfl rfl rfl ?_
      refine Sq.part (fun hne => ?_) (fun hne => ?_)
      · refine Sq.nil ?_
        refine Eq.next ?_
        refine Cq.thn rfl ?_
        refine Cq.seq ?_
        refine Cq.region ?_
        refine Sq.build st26 rfl rfl .plain rfl rfl one_nil rfl ?_
        refine Sq.storeAgg agg26 .plain rfl rfl (one_cons rfl (one_cons rfl (one_cons rfl one_nil))) hB4 rfl rfl (fun w44 g45 hB46 => ?_)
        have hs47 := World.grownBy.size g45
        replace E := E.grown g45 (fun k hk => by injection hk with hk; subst hk; omega)
        replace hB4 := hB46
        refine Sq.assign .plain rfl rfl ?_
        refine Sq.nil ?_
        refine Eq.next ?_
        refine Cq.ret ?_
        refine Eq.pastRet ?_
        refine Eq.outRet ?_
        refine Eq.pastRet ?_
        refine Eq.pastRet ?_
        refine Eq.outRet ?_
        refine Eq.pastRet ?_
        refine Eq.retCell2 rfl rfl agg26 hB4 rfl rfl ?_
        exact ⟨⟨_, _, zeroA, rfl, ⟨_, _, rfl, OwnRows.nil _ _ _ _ _, Own.nil _ _ _⟩, Parsed.no fun b hvb hsb => Agr.empty (i := k.toNat) (by omega) (by rw [← cuts_drop]; exact bytes_ext hne) hvb hsb⟩, E⟩
      refine Sq.nil ?_
      refine Eq.next ?_
      refine Cq.els rfl ?_
      refine Cq.skip ?_
      refine Eq.next ?_
      refine Cq.seq ?_
      refine Cq.region ?_
      have hne1 := str_ne hne
      have hps := cuts_mem (c := 32) (s := s) (List.mem_of_mem_drop (getD_mem (l := (cuts 32 s).drop 1) (d := ByteArray.empty) (k := k.toNat) (by omega)))
      have hcl2 : ((((cuts 32 s).drop 1).getD k.toNat ByteArray.empty).extract (1 : Int).toNat (((cuts 32 s).drop 1).getD k.toNat ByteArray.empty).size).size ≤ 2000000 := Nat.le_trans (size_cut _) (by omega)
      refine Sq.move .plain rfl rfl ?_
      refine Sq.val .plain rfl rfl (Still.cutL und9 rfl rfl (by omega)) ?_
      have hd56 := hB4.lt
      have hd57 := hB7.lt
      refine Sq.call fn26 .plain rfl rfl (readEntries_c (((((cuts 32 s).drop 1).getD k.toNat ByteArray.empty).extract (1 : Int).toNat (((cuts 32 s).drop 1).getD k.toNat ByteArray.empty).size)) (by omega) _ (hE.ext E) (hE'.ext E)) ?_
      rintro _ w49 ⟨⟨r51, ok52, xs53, rfl, ho54, hrp55⟩, e50⟩
      have hs58 := Below.size E
      have hs59 := Below.size e50
      replace E := E.trans e50
      replace hB4 := hB4.ext e50
      replace hW := hW.ext e50
      replace hB7 := hB7.ext e50
      replace hor := hor.ext e50
      replace hoa := hoa.ext e50
      refine Sq.move .plain rfl rfl ?_
      refine Sq.extract .plain rfl rfl rfl ?_
      refine Sq.extract .plain rfl rfl rfl ?_
      refine Sq.assign .plain rfl rfl ?_
      refine Sq.assign .plain rfl rfl ?_
      refine Sq.nil ?_
      refine Eq.next ?_
      refine Cq.seq ?_
      refine Cq.seq ?_
      refine Cq.region ?_
      refine Sq.move .plain rfl rfl ?_
      refine Sq.partB (fun hok2 => ?_) (fun hok2 => ?_)
      · refine Sq.notT .plain rfl rfl ?_
        refine Sq.nil ?_
        refine Eq.next ?_
        refine Cq.els rfl ?_
        refine Cq.skip ?_
        refine Eq.next ?_
        refine Cq.seq ?_
        refine Cq.region ?_
        refine Sq.fieldAddr fld26_1 .plain rfl rfl ?_
        refine Sq.loadB one23 .plain rfl rfl hB7 rfl ?_
        refine Sq.move .plain rfl rfl ?_
        obtain ⟨rs64, q65, q66, q67⟩ := OwnRows.open hor (by decide)
        have q67x := Ext.refl w49
        refine Sq.app1 sl23 q65 (by omega) (by rw [q66]; first | omega | (simp; omega)) .plain rfl rfl rfl rfl rfl rfl (Row.one (Own.row ho54)) (fun v60 w61 ho63 g62 _ => ?_)
        have hs68 := g62.size
        have ho63r := q67 _ xs53 _ _ _ (Ext.refl _) (Own.mono ho54 (by omega)) (by omega) ho63 g62
        replace E := E.owned q65 g62 (by omega)
        replace hB4 := hB4.owned q65 g62 (by decide)
        replace hW := hW.owned q65 g62 (by decide)
        replace hB7 := hB7.owned q65 g62 (by decide)
        replace hoa := hoa.owned q65 g62 (by decide)
        refine Sq.fieldAddr fld26_1 .plain rfl rfl ?_
        refine Sq.store one23 .plain rfl rfl (Rows.one (OwnRows.rows ho63r)) hB7 (by simp) (fun w69 g70 hB71 => ?_)
        have hs72 := World.grownBy.size g70
        replace E := E.grown g70 (fun k hk => by injection hk with hk; subst hk; omega)
        replace hB4 := hB4.grown g70 (by intro h; injection h with h; omega)
        replace hW := hW.stored g70 hB7 (by decide)
        replace hoa := hoa.stored g70 hB7 (by decide)
        replace ho63r := ho63r.stored g70 hB7 (by decide) (by decide)
        replace hB7 := hB71
        refine Sq.nil ?_
        refine Eq.next ?_
        refine Cq.drawS 7 (fun w' => Blk w' b29 26 [Value.int .i64 n18, v60, acv]) mixed (hB7) (fun w73 e74 hS => ?_)
        clear hS
        have hs75 := Below.size e74
        replace E := E.trans e74
        replace hB4 := hB4.ext e74
        replace hW := hW.ext e74
        replace hB7 := hB7.ext e74
        replace hoa := hoa.ext e74
        replace ho63r := ho63r.ext e74
        refine Gq.st 0 rfl (by kernel_rfl) rfl .plain rfl (fun _ _ _ h => h) hB7 (fun w' x => Still.fieldAddr fld26_2 rfl) ?_
        refine Gq.st 1 rfl (by kernel_rfl) rfl .plain rfl (fun _ _ _ h => h) hB7 (fun w' x => Still.loadB one24 rfl x rfl) ?_
        refine Gq.st 2 rfl (by kernel_rfl) rfl .plain rfl (fun _ _ _ h => h) hB7 (fun w' x => Still.move rfl) ?_
        refine Gq.st 3 rfl (by kernel_rfl) rfl .plain rfl (fun _ _ _ h => h) hB7 (fun w' x => Still.idxStr und9 rfl rfl (by omega) (str_at (by omega))) ?_
        refine Gq.st 4 rfl (by kernel_rfl) rfl .plain rfl (fun _ _ _ h => h) hB7 (fun w' x => Still.eql rfl rfl) ?_
        refine Gq.one 5 rfl (by kernel_rfl) ?_
        refine Sq.lit sl24 rfl rfl .plain rfl rfl (one_cons rfl one_nil) (fun b76 w77 e78 hlo79 ho80 _ => ?_)
        replace ho80 := ho80 w73.heap.size (Nat.le_refl _)
        have hs82 := Below.size e78
        replace E := E.trans e78
        replace hB4 := hB4.ext e78
        replace hW := hW.ext e78
        replace hB7 := hB7.ext e78
        replace hoa := hoa.ext e78
        replace ho63r := ho63r.ext e78
        refine Sq.nil ?_
        refine Eq.goes (fun _ => hB7) ?_
        refine Gq.one 6 rfl (by kernel_rfl) ?_
        refine Sq.app sl24 hoa (by omega) (Own.row ho80) (one_cons rfl one_nil) (by first | omega | (simp; omega)) .plain rfl rfl rfl rfl (fun v83 w84 ho86 g85 => ?_)
        have hs87 := g85.size
        replace E := E.owned hoa g85 (by omega)
        replace hB4 := hB4.owned hoa g85 (by decide)
        replace hW := hW.owned hoa g85 (by decide)
        replace hB7 := hB7.owned hoa g85 (by decide)
        replace ho63r := ho63r.owned hoa g85 (by decide) (by decide)
        refine Sq.nil ?_
        refine Eq.goes (fun _ => hB7) ?_
        refine Gq.one 7 rfl (by kernel_rfl) ?_
        refine Sq.fieldAddr fld26_2 .plain rfl rfl ?_
        refine Sq.nil ?_
        refine Eq.goes (fun h => absurd h (by decide)) ?_
        refine Gq.one 8 rfl (by kernel_rfl) ?_
        refine Sq.store one24 .plain rfl rfl (Row.one (Own.row ho86)) hB7 (by simp) (fun w88 g89 hB90 => ?_)
        have hs91 := World.grownBy.size g89
        replace E := E.grown g89 (fun k hk => by injection hk with hk; subst hk; omega)
        replace hB4 := hB4.grown g89 (by intro h; injection h with h; omega)
        replace hW := hW.stored g89 hB7 (by decide)
        replace ho63r := ho63r.stored g89 hB7 (by decide) (by decide)
        replace ho86 := ho86.stored g89 hB7 (by decide)
        replace hB7 := hB90
        refine Sq.nil ?_
        refine Eq.goes (fun h => absurd h (by decide)) ?_
        refine Gq.done (by kernel_rfl) ?_
        refine Eq.end ?_
        refine Eq.next ?_
        refine Cq.region ?_
        refine Sq.add .plain rfl rfl rfl (by omega) ?_
        refine Sq.move .plain rfl rfl ?_
        refine Sq.nil ?_
        have e1 := toNat_succ hk.1
        refine Eq.round _ _ ⟨k + 1, _, _, _, _, rfl, by omega, hB7, OwnRows.now ho63r, Own.snocB ho86, ⟨by simp; omega, by simp; omega⟩, by rw [e1]; exact hag.step (by omega) (cuts_drop 32 s _).symm (hrp55.flag hok2) rfl, E, hB4, hW, rfl⟩ (by omega) (.cons rfl (.cons rfl (.cons rfl (.cons rfl (.cons rfl (.cons rfl (.nil)))))))
      refine Sq.notF .plain rfl rfl ?_
      refine Sq.nil ?_
      refine Eq.next ?_
      refine Cq.thn rfl ?_
      refine Cq.seq ?_
      refine Cq.region ?_
      refine Sq.build st26 rfl rfl .plain rfl rfl one_nil rfl ?_
      refine Sq.storeAgg agg26 .plain rfl rfl (one_cons rfl (one_cons rfl (one_cons rfl one_nil))) hB4 rfl rfl (fun w92 g93 hB94 => ?_)
      have hs95 := World.grownBy.size g93
      replace E := E.grown g93 (fun k hk => by injection hk with hk; subst hk; omega)
      replace hB4 := hB94
      refine Sq.assign .plain rfl rfl ?_
      refine Sq.nil ?_
      refine Eq.next ?_
      refine Cq.ret ?_
      refine Eq.pastRet ?_
      refine Eq.outRet ?_
      refine Eq.pastRet ?_
      refine Eq.pastRet ?_
      refine Eq.outRet ?_
      refine Eq.pastRet ?_
      refine Eq.retCell2 rfl rfl agg26 hB4 rfl rfl ?_
      exact ⟨⟨_, _, zeroA, rfl, ⟨_, _, rfl, OwnRows.nil _ _ _ _ _, Own.nil _ _ _⟩, Parsed.no fun b hvb hsb => Agr.row (i := k.toNat) (by omega) (cuts_drop 32 s _).symm (hrp55.flag hok2) hvb hsb⟩, E⟩
    refine Sq.nil ?_
    refine Eq.next ?_
    refine Cq.seq ?_
    refine Cq.els rfl ?_
    refine Cq.exit ?_
    refine Eq.past ?_
    refine Eq.past ?_
    refine Eq.hit ?_
    refine Eq.next ?_
    refine Cq.seq ?_
    refine Cq.seq ?_
    refine Cq.region ?_
    refine Sq.loadAgg agg26 .plain rfl rfl hB7 rfl ?_
    have hd99 := hB4.lt
    have hd100 := hB7.lt
    refine Sq.call fn5 .plain rfl rfl (fmtVI_c _ (⟨n18, xss, ys⟩ : A) _ _ (OwnRows.rows hor) (Own.row hoa)) ?_
    rintro _ w97 ⟨rfl, e98⟩
    have hs101 := Below.size E
    have hs102 := Below.size e98
    replace E := E.trans e98
    replace hB4 := hB4.ext e98
    replace hB7 := hB7.ext e98
    replace hor := hor.ext e98
    replace hoa := hoa.ext e98
    refine Sq.move .plain rfl rfl ?_
    refine Sq.neqS .plain rfl rfl rfl ?_
    refine Sq.part (fun hfm => ?_) (fun hfm => ?_)
    · refine Sq.nil ?_
      refine Eq.next ?_
      refine Cq.thn rfl ?_
      refine Cq.seq ?_
      refine Cq.region ?_
      refine Sq.build st26 rfl rfl .plain rfl rfl one_nil rfl ?_
      refine Sq.storeAgg agg26 .plain rfl rfl (one_cons rfl (one_cons rfl (one_cons rfl one_nil))) hB4 rfl rfl (fun w103 g104 hB105 => ?_)
      have hs106 := World.grownBy.size g104
      replace E := E.grown g104 (fun k hk => by injection hk with hk; subst hk; omega)
      replace hB4 := hB105
      refine Sq.assign .plain rfl rfl ?_
      refine Sq.nil ?_
      refine Eq.next ?_
      refine Cq.ret ?_
      refine Eq.pastRet ?_
      refine Eq.retCell2 rfl rfl agg26 hB4 rfl rfl ?_
      exact ⟨⟨_, _, zeroA, rfl, ⟨_, _, rfl, OwnRows.nil _ _ _ _ _, Own.nil _ _ _⟩, Parsed.no fun b hvb hsb => Agr.last hag (by omega) (fun e => hfm (by rw [e])) hvb hsb⟩, E⟩
    refine Sq.nil ?_
    refine Eq.next ?_
    refine Cq.els rfl ?_
    refine Cq.skip ?_
    refine Eq.next ?_
    refine Cq.seq ?_
    refine Cq.region ?_
    refine Sq.loadAgg agg26 .plain rfl rfl hB7 rfl ?_
    refine Sq.storeAgg agg26 .plain rfl rfl (one_cons rfl (one_cons (Rows.one (OwnRows.rows hor)) (one_cons (Row.one (Own.row hoa)) one_nil))) hB4 rfl rfl (fun w107 g108 hB109 => ?_)
    have hs110 := World.grownBy.size g108
    replace E := E.grown g108 (fun k hk => by injection hk with hk; subst hk; omega)
    replace hor := hor.stored g108 hB4 (by decide) (by decide)
    replace hoa := hoa.stored g108 hB4 (by decide)
    replace hB4 := hB109
    refine Sq.assign .plain rfl rfl ?_
    refine Sq.nil ?_
    refine Eq.next ?_
    refine Cq.ret ?_
    refine Eq.retCell2 rfl rfl agg26 hB4 rfl rfl ?_
    exact ⟨⟨_, _, ⟨n18, xss, ys⟩, rfl, ⟨_, _, rfl, OwnRows.now hor, hoa⟩, Agr.done hag (by omega) (by omega) (hap21.1 hok) (bytes_ext (Decidable.not_not.1 hfm))⟩, E⟩
  refine Sq.notF .plain rfl rfl ?_
  refine Sq.move .plain rfl rfl ?_
  refine Sq.off rfl rfl rfl rfl rfl rfl ?_
  refine Sq.off rfl rfl rfl rfl rfl rfl ?_
  refine Sq.off rfl rfl rfl rfl rfl rfl ?_
  refine Sq.pickT .plain rfl rfl rfl ?_
  refine Sq.nil ?_
  refine Eq.next ?_
  refine Cq.thn rfl ?_
  refine Cq.seq ?_
  refine Cq.region ?_
  refine Sq.build st26 rfl rfl .plain rfl rfl one_nil rfl ?_
  refine Sq.storeAgg agg26 .plain rfl rfl (one_cons rfl (one_cons rfl (one_cons rfl one_nil))) hB4 rfl rfl (fun w111 g112 hB113 => ?_)
  have hs114 := World.grownBy.size g112
  replace E := E.grown g112 (fun k hk => by injection hk with hk; subst hk; omega)
  replace hB4 := hB113
  refine Sq.assign .plain rfl rfl ?_
  refine Sq.nil ?_
  refine Eq.next ?_
  refine Cq.ret ?_
  refine Eq.pastRet ?_
  refine Eq.retCell2 rfl rfl agg26 hB4 rfl rfl ?_
  exact ⟨⟨_, _, zeroA, rfl, ⟨_, _, rfl, OwnRows.nil _ _ _ _ _, Own.nil _ _ _⟩, Parsed.no fun b hvb hsb => Agr.al (hap21.flag hok) hvb hsb⟩, E⟩
end Go.Proofs.YtnckpafknojdhaaGreatDoor
