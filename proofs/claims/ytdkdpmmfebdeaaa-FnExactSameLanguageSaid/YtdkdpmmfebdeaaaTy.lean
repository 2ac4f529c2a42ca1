/-
  Closed facts on this seat's types and functions, printed by a program (wip/ty.py) out of the translation's own tables; each is checked by the kernel.
-/
import Derived.Test.YtdkdpmmfebdeaaaRows
import Derived.Test.YtdkdpmmfebdeaaaOwn
import Derived.Test.YtdkdpmmfebdeaaaPure
import Derived.Test.YtdkdpmmfebdeaaaRnd
import Derived.Test.YtdkdpmmfebdeaaaExt
import Derived.Test.YtdkdpmmfebdeaaaStr
import Derived.Eval
set_option linter.unusedSimpArgs false
set_option linter.unusedVariables false
namespace Go.Proofs.Ytdkdpmmfebdeaaa
set_option maxRecDepth 100000
theorem mixed : Try.prog.follows .mixedOrders = true := Try.checked.mixed
theorem fn2 : Fn Try.prog 2 Try.f2 := ⟨Try.func2, rfl, by kernel_rfl⟩
theorem fn3 : Fn Try.prog 3 Try.f3 := ⟨Try.func3, rfl, by kernel_rfl⟩
theorem fn4 : Fn Try.prog 4 Try.f4 := ⟨Try.func4, rfl, by kernel_rfl⟩
theorem fn5 : Fn Try.prog 5 Try.f5 := ⟨Try.func5, rfl, by kernel_rfl⟩
theorem fn6 : Fn Try.prog 6 Try.f6 := ⟨Try.func6, rfl, by kernel_rfl⟩
theorem fn7 : Fn Try.prog 7 Try.f7 := ⟨Try.func7, rfl, by kernel_rfl⟩
theorem fn8 : Fn Try.prog 8 Try.f8 := ⟨Try.func8, rfl, by kernel_rfl⟩
theorem fn9 : Fn Try.prog 9 Try.f9 := ⟨Try.func9, rfl, by kernel_rfl⟩
theorem fn10 : Fn Try.prog 10 Try.f10 := ⟨Try.func10, rfl, by kernel_rfl⟩
theorem fn11 : Fn Try.prog 11 Try.f11 := ⟨Try.func11, rfl, by kernel_rfl⟩
theorem fn12 : Fn Try.prog 12 Try.f12 := ⟨Try.func12, rfl, by kernel_rfl⟩
theorem fn13 : Fn Try.prog 13 Try.f13 := ⟨Try.func13, rfl, by kernel_rfl⟩
theorem fn14 : Fn Try.prog 14 Try.f14 := ⟨Try.func14, rfl, by kernel_rfl⟩
theorem fn15 : Fn Try.prog 15 Try.f15 := ⟨Try.func15, rfl, by kernel_rfl⟩
theorem fn16 : Fn Try.prog 16 Try.f16 := ⟨Try.func16, rfl, by kernel_rfl⟩
theorem fn17 : Fn Try.prog 17 Try.f17 := ⟨Try.func17, rfl, by kernel_rfl⟩
theorem fn18 : Fn Try.prog 18 Try.f18 := ⟨Try.func18, rfl, by kernel_rfl⟩
theorem fn19 : Fn Try.prog 19 Try.f19 := ⟨Try.func19, rfl, by kernel_rfl⟩
theorem fn20 : Fn Try.prog 20 Try.f20 := ⟨Try.func20, rfl, by kernel_rfl⟩
theorem fn21 : Fn Try.prog 21 Try.f21 := ⟨Try.func21, rfl, by kernel_rfl⟩
theorem fn22 : Fn Try.prog 22 Try.f22 := ⟨Try.func22, rfl, by kernel_rfl⟩
theorem fn23 : Fn Try.prog 23 Try.f23 := ⟨Try.func23, rfl, by kernel_rfl⟩
theorem fn24 : Fn Try.prog 24 Try.f24 := ⟨Try.func24, rfl, by kernel_rfl⟩
theorem fn25 : Fn Try.prog 25 Try.f25 := ⟨Try.func25, rfl, by kernel_rfl⟩
theorem fn26 : Fn Try.prog 26 Try.f26 := ⟨Try.func26, rfl, by kernel_rfl⟩
theorem fn27 : Fn Try.prog 27 Try.f27 := ⟨Try.func27, rfl, by kernel_rfl⟩
theorem fn28 : Fn Try.prog 28 Try.f28 := ⟨Try.func28, rfl, by kernel_rfl⟩
theorem fn29 : Fn Try.prog 29 Try.f29 := ⟨Try.func29, rfl, by kernel_rfl⟩
theorem fn30 : Fn Try.prog 30 Try.f30 := ⟨Try.func30, rfl, by kernel_rfl⟩
theorem fn31 : Fn Try.prog 31 Try.f31 := ⟨Try.func31, rfl, by kernel_rfl⟩
theorem fn32 : Fn Try.prog 32 Try.f32 := ⟨Try.func32, rfl, by kernel_rfl⟩
theorem fn33 : Fn Try.prog 33 Try.f33 := ⟨Try.func33, rfl, by kernel_rfl⟩
theorem fn34 : Fn Try.prog 34 Try.f34 := ⟨Try.func34, rfl, by kernel_rfl⟩
theorem fn35 : Fn Try.prog 35 Try.f35 := ⟨Try.func35, rfl, by kernel_rfl⟩
theorem fn36 : Fn Try.prog 36 Try.f36 := ⟨Try.func36, rfl, by kernel_rfl⟩
theorem fn37 : Fn Try.prog 37 Try.f37 := ⟨Try.func37, rfl, by kernel_rfl⟩
theorem fn38 : Fn Try.prog 38 Try.f38 := ⟨Try.func38, rfl, by kernel_rfl⟩
theorem fn39 : Fn Try.prog 39 Try.f39 := ⟨Try.func39, rfl, by kernel_rfl⟩
theorem fn40 : Fn Try.prog 40 Try.f40 := ⟨Try.func40, rfl, by kernel_rfl⟩
theorem fn41 : Fn Try.prog 41 Try.f41 := ⟨Try.func41, rfl, by kernel_rfl⟩
theorem fn42 : Fn Try.prog 42 Try.f42 := ⟨Try.func42, rfl, by kernel_rfl⟩
theorem fn43 : Fn Try.prog 43 Try.f43 := ⟨Try.func43, rfl, by kernel_rfl⟩
theorem fn44 : Fn Try.prog 44 Try.f44 := ⟨Try.func44, rfl, by kernel_rfl⟩
theorem fn45 : Fn Try.prog 45 Try.f45 := ⟨Try.func45, rfl, by kernel_rfl⟩
theorem fn46 : Fn Try.prog 46 Try.f46 := ⟨Try.func46, rfl, by kernel_rfl⟩
theorem fn47 : Fn Try.prog 47 Try.f47 := ⟨Try.func47, rfl, by kernel_rfl⟩
theorem fn48 : Fn Try.prog 48 Try.f48 := ⟨Try.func48, rfl, by kernel_rfl⟩
theorem fn49 : Fn Try.prog 49 Try.f49 := ⟨Try.func49, rfl, by kernel_rfl⟩
theorem fn50 : Fn Try.prog 50 Try.f50 := ⟨Try.func50, rfl, by kernel_rfl⟩
theorem fn51 : Fn Try.prog 51 Try.f51 := ⟨Try.func51, rfl, by kernel_rfl⟩
theorem fn52 : Fn Try.prog 52 Try.f52 := ⟨Try.func52, rfl, by kernel_rfl⟩
theorem fn53 : Fn Try.prog 53 Try.f53 := ⟨Try.func53, rfl, by kernel_rfl⟩
theorem fn54 : Fn Try.prog 54 Try.f54 := ⟨Try.func54, rfl, by kernel_rfl⟩
theorem fn55 : Fn Try.prog 55 Try.f55 := ⟨Try.func55, rfl, by kernel_rfl⟩
theorem fn56 : Fn Try.prog 56 Try.f56 := ⟨Try.func56, rfl, by kernel_rfl⟩
theorem fn57 : Fn Try.prog 57 Try.f57 := ⟨Try.func57, rfl, by kernel_rfl⟩
theorem fn58 : Fn Try.prog 58 Try.f58 := ⟨Try.func58, rfl, by kernel_rfl⟩
theorem fn59 : Fn Try.prog 59 Try.f59 := ⟨Try.func59, rfl, by kernel_rfl⟩
theorem fn60 : Fn Try.prog 60 Try.f60 := ⟨Try.func60, rfl, by kernel_rfl⟩
theorem fn61 : Fn Try.prog 61 Try.f61 := ⟨Try.func61, rfl, by kernel_rfl⟩
theorem fn62 : Fn Try.prog 62 Try.f62 := ⟨Try.func62, rfl, by kernel_rfl⟩
theorem fn63 : Fn Try.prog 63 Try.f63 := ⟨Try.func63, rfl, by kernel_rfl⟩
theorem fn64 : Fn Try.prog 64 Try.f64 := ⟨Try.func64, rfl, by kernel_rfl⟩
theorem fn65 : Fn Try.prog 65 Try.f65 := ⟨Try.func65, rfl, by kernel_rfl⟩
theorem fn66 : Fn Try.prog 66 Try.f66 := ⟨Try.func66, rfl, by kernel_rfl⟩
theorem fn67 : Fn Try.prog 67 Try.f67 := ⟨Try.func67, rfl, by kernel_rfl⟩
theorem fn68 : Fn Try.prog 68 Try.f68 := ⟨Try.func68, rfl, by kernel_rfl⟩
theorem fn69 : Fn Try.prog 69 Try.f69 := ⟨Try.func69, rfl, by kernel_rfl⟩
theorem fn70 : Fn Try.prog 70 Try.f70 := ⟨Try.func70, rfl, by kernel_rfl⟩
theorem fn71 : Fn Try.prog 71 Try.f71 := ⟨Try.func71, rfl, by kernel_rfl⟩
theorem fn72 : Fn Try.prog 72 Try.f72 := ⟨Try.func72, rfl, by kernel_rfl⟩
theorem fn73 : Fn Try.prog 73 Try.f73 := ⟨Try.func73, rfl, by kernel_rfl⟩
theorem fn74 : Fn Try.prog 74 Try.f74 := ⟨Try.func74, rfl, by kernel_rfl⟩
theorem fn75 : Fn Try.prog 75 Try.f75 := ⟨Try.func75, rfl, by kernel_rfl⟩
theorem fn76 : Fn Try.prog 76 Try.f76 := ⟨Try.func76, rfl, by kernel_rfl⟩
theorem fn77 : Fn Try.prog 77 Try.f77 := ⟨Try.func77, rfl, by kernel_rfl⟩
theorem fn78 : Fn Try.prog 78 Try.f78 := ⟨Try.func78, rfl, by kernel_rfl⟩
theorem fn79 : Fn Try.prog 79 Try.f79 := ⟨Try.func79, rfl, by kernel_rfl⟩
theorem fn80 : Fn Try.prog 80 Try.f80 := ⟨Try.func80, rfl, by kernel_rfl⟩
theorem fn81 : Fn Try.prog 81 Try.f81 := ⟨Try.func81, rfl, by kernel_rfl⟩
theorem fn82 : Fn Try.prog 82 Try.f82 := ⟨Try.func82, rfl, by kernel_rfl⟩
theorem fn83 : Fn Try.prog 83 Try.f83 := ⟨Try.func83, rfl, by kernel_rfl⟩
theorem fn84 : Fn Try.prog 84 Try.f84 := ⟨Try.func84, rfl, by kernel_rfl⟩
theorem fn85 : Fn Try.prog 85 Try.f85 := ⟨Try.func85, rfl, by kernel_rfl⟩
theorem fn86 : Fn Try.prog 86 Try.f86 := ⟨Try.func86, rfl, by kernel_rfl⟩
theorem fn87 : Fn Try.prog 87 Try.f87 := ⟨Try.func87, rfl, by kernel_rfl⟩
theorem fn88 : Fn Try.prog 88 Try.f88 := ⟨Try.func88, rfl, by kernel_rfl⟩
theorem fn89 : Fn Try.prog 89 Try.f89 := ⟨Try.func89, rfl, by kernel_rfl⟩
theorem fn90 : Fn Try.prog 90 Try.f90 := ⟨Try.func90, rfl, by kernel_rfl⟩
theorem fn91 : Fn Try.prog 91 Try.f91 := ⟨Try.func91, rfl, by kernel_rfl⟩
theorem fn92 : Fn Try.prog 92 Try.f92 := ⟨Try.func92, rfl, by kernel_rfl⟩
theorem fn93 : Fn Try.prog 93 Try.f93 := ⟨Try.func93, rfl, by kernel_rfl⟩
theorem fn94 : Fn Try.prog 94 Try.f94 := ⟨Try.func94, rfl, by kernel_rfl⟩
theorem fn95 : Fn Try.prog 95 Try.f95 := ⟨Try.func95, rfl, by kernel_rfl⟩
theorem fn96 : Fn Try.prog 96 Try.f96 := ⟨Try.func96, rfl, by kernel_rfl⟩
theorem fn97 : Fn Try.prog 97 Try.f97 := ⟨Try.func97, rfl, by kernel_rfl⟩
theorem fn98 : Fn Try.prog 98 Try.f98 := ⟨Try.func98, rfl, by kernel_rfl⟩
theorem fn99 : Fn Try.prog 99 Try.f99 := ⟨Try.func99, rfl, by kernel_rfl⟩
theorem fn100 : Fn Try.prog 100 Try.f100 := ⟨Try.func100, rfl, by kernel_rfl⟩
theorem fn101 : Fn Try.prog 101 Try.f101 := ⟨Try.func101, rfl, by kernel_rfl⟩
theorem fn102 : Fn Try.prog 102 Try.f102 := ⟨Try.func102, rfl, by kernel_rfl⟩
theorem fn103 : Fn Try.prog 103 Try.f103 := ⟨Try.func103, rfl, by kernel_rfl⟩
theorem fn104 : Fn Try.prog 104 Try.f104 := ⟨Try.func104, rfl, by kernel_rfl⟩
theorem fn105 : Fn Try.prog 105 Try.f105 := ⟨Try.func105, rfl, by kernel_rfl⟩
theorem fn106 : Fn Try.prog 106 Try.f106 := ⟨Try.func106, rfl, by kernel_rfl⟩
theorem fn107 : Fn Try.prog 107 Try.f107 := ⟨Try.func107, rfl, by kernel_rfl⟩
theorem fn108 : Fn Try.prog 108 Try.f108 := ⟨Try.func108, rfl, by kernel_rfl⟩
theorem fn109 : Fn Try.prog 109 Try.f109 := ⟨Try.func109, rfl, by kernel_rfl⟩
theorem fn110 : Fn Try.prog 110 Try.f110 := ⟨Try.func110, rfl, by kernel_rfl⟩
theorem one1 : One Try.prog 1 := ⟨fun _ => by kernel_rfl, fun _ => by kernel_rfl⟩
theorem zero1 : ∀ w, (zeroValue 1).run Try.prog w = .ok (.nilFunc) w := fun _ => by kernel_rfl
theorem one3 : One Try.prog 3 := ⟨fun _ => by kernel_rfl, fun _ => by kernel_rfl⟩
theorem zero3 : ∀ w, (zeroValue 3).run Try.prog w = .ok (.int .i64 0) w := fun _ => by kernel_rfl
theorem one4 : One Try.prog 4 := ⟨fun _ => by kernel_rfl, fun _ => by kernel_rfl⟩
theorem zero4 : ∀ w, (zeroValue 4).run Try.prog w = .ok (.bool false) w := fun _ => by kernel_rfl
theorem one5 : One Try.prog 5 := ⟨fun _ => by kernel_rfl, fun _ => by kernel_rfl⟩
theorem zero5 : ∀ w, (zeroValue 5).run Try.prog w = .ok (.int .u8 0) w := fun _ => by kernel_rfl
theorem one9 : One Try.prog 9 := ⟨fun _ => by kernel_rfl, fun _ => by kernel_rfl⟩
theorem zero9 : ∀ w, (zeroValue 9).run Try.prog w = .ok (.string ByteArray.empty) w := fun _ => by kernel_rfl
theorem one22 : One Try.prog 22 := ⟨fun _ => by kernel_rfl, fun _ => by kernel_rfl⟩
theorem zero22 : ∀ w, (zeroValue 22).run Try.prog w = .ok (.slice none 0 0) w := fun _ => by kernel_rfl
theorem one23 : One Try.prog 23 := ⟨fun _ => by kernel_rfl, fun _ => by kernel_rfl⟩
theorem zero23 : ∀ w, (zeroValue 23).run Try.prog w = .ok (.slice none 0 0) w := fun _ => by kernel_rfl
theorem one26 : One Try.prog 26 := ⟨fun _ => by kernel_rfl, fun _ => by kernel_rfl⟩
theorem zero26 : ∀ w, (zeroValue 26).run Try.prog w = .ok (.nilFunc) w := fun _ => by kernel_rfl
theorem one29 : One Try.prog 29 := ⟨fun _ => by kernel_rfl, fun _ => by kernel_rfl⟩
theorem zero29 : ∀ w, (zeroValue 29).run Try.prog w = .ok (.nilFunc) w := fun _ => by kernel_rfl
theorem one30 : One Try.prog 30 := ⟨fun _ => by kernel_rfl, fun _ => by kernel_rfl⟩
theorem zero30 : ∀ w, (zeroValue 30).run Try.prog w = .ok (.nilFunc) w := fun _ => by kernel_rfl
theorem one31 : One Try.prog 31 := ⟨fun _ => by kernel_rfl, fun _ => by kernel_rfl⟩
theorem zero31 : ∀ w, (zeroValue 31).run Try.prog w = .ok (.nilFunc) w := fun _ => by kernel_rfl
theorem one32 : One Try.prog 32 := ⟨fun _ => by kernel_rfl, fun _ => by kernel_rfl⟩
theorem zero32 : ∀ w, (zeroValue 32).run Try.prog w = .ok (.nilFunc) w := fun _ => by kernel_rfl
theorem one33 : One Try.prog 33 := ⟨fun _ => by kernel_rfl, fun _ => by kernel_rfl⟩
theorem zero33 : ∀ w, (zeroValue 33).run Try.prog w = .ok (.nilFunc) w := fun _ => by kernel_rfl
theorem one34 : One Try.prog 34 := ⟨fun _ => by kernel_rfl, fun _ => by kernel_rfl⟩
theorem zero34 : ∀ w, (zeroValue 34).run Try.prog w = .ok (.nilFunc) w := fun _ => by kernel_rfl
theorem one35 : One Try.prog 35 := ⟨fun _ => by kernel_rfl, fun _ => by kernel_rfl⟩
theorem zero35 : ∀ w, (zeroValue 35).run Try.prog w = .ok (.nilFunc) w := fun _ => by kernel_rfl
theorem one37 : One Try.prog 37 := ⟨fun _ => by kernel_rfl, fun _ => by kernel_rfl⟩
theorem zero37 : ∀ w, (zeroValue 37).run Try.prog w = .ok (.nilFunc) w := fun _ => by kernel_rfl
theorem one38 : One Try.prog 38 := ⟨fun _ => by kernel_rfl, fun _ => by kernel_rfl⟩
theorem zero38 : ∀ w, (zeroValue 38).run Try.prog w = .ok (.nilFunc) w := fun _ => by kernel_rfl
theorem one39 : One Try.prog 39 := ⟨fun _ => by kernel_rfl, fun _ => by kernel_rfl⟩
theorem zero39 : ∀ w, (zeroValue 39).run Try.prog w = .ok (.nilFunc) w := fun _ => by kernel_rfl
theorem one40 : One Try.prog 40 := ⟨fun _ => by kernel_rfl, fun _ => by kernel_rfl⟩
theorem zero40 : ∀ w, (zeroValue 40).run Try.prog w = .ok (.nilFunc) w := fun _ => by kernel_rfl
theorem one41 : One Try.prog 41 := ⟨fun _ => by kernel_rfl, fun _ => by kernel_rfl⟩
theorem zero41 : ∀ w, (zeroValue 41).run Try.prog w = .ok (.nilFunc) w := fun _ => by kernel_rfl
theorem one42 : One Try.prog 42 := ⟨fun _ => by kernel_rfl, fun _ => by kernel_rfl⟩
theorem zero42 : ∀ w, (zeroValue 42).run Try.prog w = .ok (.nilFunc) w := fun _ => by kernel_rfl
theorem one43 : One Try.prog 43 := ⟨fun _ => by kernel_rfl, fun _ => by kernel_rfl⟩
theorem zero43 : ∀ w, (zeroValue 43).run Try.prog w = .ok (.nilFunc) w := fun _ => by kernel_rfl
theorem one44 : One Try.prog 44 := ⟨fun _ => by kernel_rfl, fun _ => by kernel_rfl⟩
theorem zero44 : ∀ w, (zeroValue 44).run Try.prog w = .ok (.nilFunc) w := fun _ => by kernel_rfl
theorem one45 : One Try.prog 45 := ⟨fun _ => by kernel_rfl, fun _ => by kernel_rfl⟩
theorem zero45 : ∀ w, (zeroValue 45).run Try.prog w = .ok (.nilFunc) w := fun _ => by kernel_rfl
theorem one46 : One Try.prog 46 := ⟨fun _ => by kernel_rfl, fun _ => by kernel_rfl⟩
theorem zero46 : ∀ w, (zeroValue 46).run Try.prog w = .ok (.nilFunc) w := fun _ => by kernel_rfl
theorem one47 : One Try.prog 47 := ⟨fun _ => by kernel_rfl, fun _ => by kernel_rfl⟩
theorem zero47 : ∀ w, (zeroValue 47).run Try.prog w = .ok (.nilFunc) w := fun _ => by kernel_rfl
theorem one48 : One Try.prog 48 := ⟨fun _ => by kernel_rfl, fun _ => by kernel_rfl⟩
theorem zero48 : ∀ w, (zeroValue 48).run Try.prog w = .ok (.nilFunc) w := fun _ => by kernel_rfl
theorem one49 : One Try.prog 49 := ⟨fun _ => by kernel_rfl, fun _ => by kernel_rfl⟩
theorem zero49 : ∀ w, (zeroValue 49).run Try.prog w = .ok (.nilFunc) w := fun _ => by kernel_rfl
theorem one50 : One Try.prog 50 := ⟨fun _ => by kernel_rfl, fun _ => by kernel_rfl⟩
theorem zero50 : ∀ w, (zeroValue 50).run Try.prog w = .ok (.nilFunc) w := fun _ => by kernel_rfl
theorem one51 : One Try.prog 51 := ⟨fun _ => by kernel_rfl, fun _ => by kernel_rfl⟩
theorem zero51 : ∀ w, (zeroValue 51).run Try.prog w = .ok (.nilFunc) w := fun _ => by kernel_rfl
theorem one52 : One Try.prog 52 := ⟨fun _ => by kernel_rfl, fun _ => by kernel_rfl⟩
theorem zero52 : ∀ w, (zeroValue 52).run Try.prog w = .ok (.slice none 0 0) w := fun _ => by kernel_rfl
theorem one53 : One Try.prog 53 := ⟨fun _ => by kernel_rfl, fun _ => by kernel_rfl⟩
theorem zero53 : ∀ w, (zeroValue 53).run Try.prog w = .ok (.nilFunc) w := fun _ => by kernel_rfl
theorem one56 : One Try.prog 56 := ⟨fun _ => by kernel_rfl, fun _ => by kernel_rfl⟩
theorem zero56 : ∀ w, (zeroValue 56).run Try.prog w = .ok (.slice none 0 0) w := fun _ => by kernel_rfl
theorem one57 : One Try.prog 57 := ⟨fun _ => by kernel_rfl, fun _ => by kernel_rfl⟩
theorem zero57 : ∀ w, (zeroValue 57).run Try.prog w = .ok (.nilFunc) w := fun _ => by kernel_rfl
theorem one58 : One Try.prog 58 := ⟨fun _ => by kernel_rfl, fun _ => by kernel_rfl⟩
theorem zero58 : ∀ w, (zeroValue 58).run Try.prog w = .ok (.nilFunc) w := fun _ => by kernel_rfl
theorem one59 : One Try.prog 59 := ⟨fun _ => by kernel_rfl, fun _ => by kernel_rfl⟩
theorem zero59 : ∀ w, (zeroValue 59).run Try.prog w = .ok (.nilFunc) w := fun _ => by kernel_rfl
theorem one60 : One Try.prog 60 := ⟨fun _ => by kernel_rfl, fun _ => by kernel_rfl⟩
theorem zero60 : ∀ w, (zeroValue 60).run Try.prog w = .ok (.slice none 0 0) w := fun _ => by kernel_rfl
theorem one61 : One Try.prog 61 := ⟨fun _ => by kernel_rfl, fun _ => by kernel_rfl⟩
theorem zero61 : ∀ w, (zeroValue 61).run Try.prog w = .ok (.nilFunc) w := fun _ => by kernel_rfl
theorem one63 : One Try.prog 63 := ⟨fun _ => by kernel_rfl, fun _ => by kernel_rfl⟩
theorem zero63 : ∀ w, (zeroValue 63).run Try.prog w = .ok (.nilFunc) w := fun _ => by kernel_rfl
theorem one65 : One Try.prog 65 := ⟨fun _ => by kernel_rfl, fun _ => by kernel_rfl⟩
theorem zero65 : ∀ w, (zeroValue 65).run Try.prog w = .ok (.nilFunc) w := fun _ => by kernel_rfl
theorem one66 : One Try.prog 66 := ⟨fun _ => by kernel_rfl, fun _ => by kernel_rfl⟩
theorem zero66 : ∀ w, (zeroValue 66).run Try.prog w = .ok (.nilFunc) w := fun _ => by kernel_rfl
theorem one67 : One Try.prog 67 := ⟨fun _ => by kernel_rfl, fun _ => by kernel_rfl⟩
theorem zero67 : ∀ w, (zeroValue 67).run Try.prog w = .ok (.slice none 0 0) w := fun _ => by kernel_rfl
theorem one68 : One Try.prog 68 := ⟨fun _ => by kernel_rfl, fun _ => by kernel_rfl⟩
theorem zero68 : ∀ w, (zeroValue 68).run Try.prog w = .ok (.slice none 0 0) w := fun _ => by kernel_rfl
theorem one71 : One Try.prog 71 := ⟨fun _ => by kernel_rfl, fun _ => by kernel_rfl⟩
theorem zero71 : ∀ w, (zeroValue 71).run Try.prog w = .ok (.nilFunc) w := fun _ => by kernel_rfl
theorem one72 : One Try.prog 72 := ⟨fun _ => by kernel_rfl, fun _ => by kernel_rfl⟩
theorem zero72 : ∀ w, (zeroValue 72).run Try.prog w = .ok (.nilFunc) w := fun _ => by kernel_rfl
theorem one73 : One Try.prog 73 := ⟨fun _ => by kernel_rfl, fun _ => by kernel_rfl⟩
theorem zero73 : ∀ w, (zeroValue 73).run Try.prog w = .ok (.nilFunc) w := fun _ => by kernel_rfl
theorem one74 : One Try.prog 74 := ⟨fun _ => by kernel_rfl, fun _ => by kernel_rfl⟩
theorem zero74 : ∀ w, (zeroValue 74).run Try.prog w = .ok (.nilFunc) w := fun _ => by kernel_rfl
theorem one75 : One Try.prog 75 := ⟨fun _ => by kernel_rfl, fun _ => by kernel_rfl⟩
theorem zero75 : ∀ w, (zeroValue 75).run Try.prog w = .ok (.nilFunc) w := fun _ => by kernel_rfl
theorem one76 : One Try.prog 76 := ⟨fun _ => by kernel_rfl, fun _ => by kernel_rfl⟩
theorem zero76 : ∀ w, (zeroValue 76).run Try.prog w = .ok (.nilFunc) w := fun _ => by kernel_rfl
theorem one77 : One Try.prog 77 := ⟨fun _ => by kernel_rfl, fun _ => by kernel_rfl⟩
theorem zero77 : ∀ w, (zeroValue 77).run Try.prog w = .ok (.nilFunc) w := fun _ => by kernel_rfl
theorem one78 : One Try.prog 78 := ⟨fun _ => by kernel_rfl, fun _ => by kernel_rfl⟩
theorem zero78 : ∀ w, (zeroValue 78).run Try.prog w = .ok (.nilFunc) w := fun _ => by kernel_rfl
theorem one79 : One Try.prog 79 := ⟨fun _ => by kernel_rfl, fun _ => by kernel_rfl⟩
theorem zero79 : ∀ w, (zeroValue 79).run Try.prog w = .ok (.nilFunc) w := fun _ => by kernel_rfl
theorem one80 : One Try.prog 80 := ⟨fun _ => by kernel_rfl, fun _ => by kernel_rfl⟩
theorem zero80 : ∀ w, (zeroValue 80).run Try.prog w = .ok (.nilFunc) w := fun _ => by kernel_rfl
theorem one81 : One Try.prog 81 := ⟨fun _ => by kernel_rfl, fun _ => by kernel_rfl⟩
theorem zero81 : ∀ w, (zeroValue 81).run Try.prog w = .ok (.nilFunc) w := fun _ => by kernel_rfl
theorem one82 : One Try.prog 82 := ⟨fun _ => by kernel_rfl, fun _ => by kernel_rfl⟩
theorem zero82 : ∀ w, (zeroValue 82).run Try.prog w = .ok (.map none) w := fun _ => by kernel_rfl
theorem one84 : One Try.prog 84 := ⟨fun _ => by kernel_rfl, fun _ => by kernel_rfl⟩
theorem zero84 : ∀ w, (zeroValue 84).run Try.prog w = .ok (.nilFunc) w := fun _ => by kernel_rfl
theorem one85 : One Try.prog 85 := ⟨fun _ => by kernel_rfl, fun _ => by kernel_rfl⟩
theorem zero85 : ∀ w, (zeroValue 85).run Try.prog w = .ok (.slice none 0 0) w := fun _ => by kernel_rfl
theorem one86 : One Try.prog 86 := ⟨fun _ => by kernel_rfl, fun _ => by kernel_rfl⟩
theorem zero86 : ∀ w, (zeroValue 86).run Try.prog w = .ok (.nilFunc) w := fun _ => by kernel_rfl
theorem one87 : One Try.prog 87 := ⟨fun _ => by kernel_rfl, fun _ => by kernel_rfl⟩
theorem zero87 : ∀ w, (zeroValue 87).run Try.prog w = .ok (.nilFunc) w := fun _ => by kernel_rfl
theorem one88 : One Try.prog 88 := ⟨fun _ => by kernel_rfl, fun _ => by kernel_rfl⟩
theorem zero88 : ∀ w, (zeroValue 88).run Try.prog w = .ok (.nilFunc) w := fun _ => by kernel_rfl
theorem one89 : One Try.prog 89 := ⟨fun _ => by kernel_rfl, fun _ => by kernel_rfl⟩
theorem zero89 : ∀ w, (zeroValue 89).run Try.prog w = .ok (.nilFunc) w := fun _ => by kernel_rfl
theorem one90 : One Try.prog 90 := ⟨fun _ => by kernel_rfl, fun _ => by kernel_rfl⟩
theorem zero90 : ∀ w, (zeroValue 90).run Try.prog w = .ok (.nilFunc) w := fun _ => by kernel_rfl
theorem one91 : One Try.prog 91 := ⟨fun _ => by kernel_rfl, fun _ => by kernel_rfl⟩
theorem zero91 : ∀ w, (zeroValue 91).run Try.prog w = .ok (.nilFunc) w := fun _ => by kernel_rfl
theorem one92 : One Try.prog 92 := ⟨fun _ => by kernel_rfl, fun _ => by kernel_rfl⟩
theorem zero92 : ∀ w, (zeroValue 92).run Try.prog w = .ok (.nilFunc) w := fun _ => by kernel_rfl
theorem one93 : One Try.prog 93 := ⟨fun _ => by kernel_rfl, fun _ => by kernel_rfl⟩
theorem zero93 : ∀ w, (zeroValue 93).run Try.prog w = .ok (.nilFunc) w := fun _ => by kernel_rfl
theorem one94 : One Try.prog 94 := ⟨fun _ => by kernel_rfl, fun _ => by kernel_rfl⟩
theorem zero94 : ∀ w, (zeroValue 94).run Try.prog w = .ok (.nilFunc) w := fun _ => by kernel_rfl
theorem one95 : One Try.prog 95 := ⟨fun _ => by kernel_rfl, fun _ => by kernel_rfl⟩
theorem zero95 : ∀ w, (zeroValue 95).run Try.prog w = .ok (.nilFunc) w := fun _ => by kernel_rfl
theorem one96 : One Try.prog 96 := ⟨fun _ => by kernel_rfl, fun _ => by kernel_rfl⟩
theorem zero96 : ∀ w, (zeroValue 96).run Try.prog w = .ok (.int .u64 0) w := fun _ => by kernel_rfl
theorem one97 : One Try.prog 97 := ⟨fun _ => by kernel_rfl, fun _ => by kernel_rfl⟩
theorem zero97 : ∀ w, (zeroValue 97).run Try.prog w = .ok (.slice none 0 0) w := fun _ => by kernel_rfl
theorem one100 : One Try.prog 100 := ⟨fun _ => by kernel_rfl, fun _ => by kernel_rfl⟩
theorem zero100 : ∀ w, (zeroValue 100).run Try.prog w = .ok (.nilFunc) w := fun _ => by kernel_rfl
theorem one101 : One Try.prog 101 := ⟨fun _ => by kernel_rfl, fun _ => by kernel_rfl⟩
theorem zero101 : ∀ w, (zeroValue 101).run Try.prog w = .ok (.nilFunc) w := fun _ => by kernel_rfl
theorem one102 : One Try.prog 102 := ⟨fun _ => by kernel_rfl, fun _ => by kernel_rfl⟩
theorem zero102 : ∀ w, (zeroValue 102).run Try.prog w = .ok (.nilFunc) w := fun _ => by kernel_rfl
theorem one103 : One Try.prog 103 := ⟨fun _ => by kernel_rfl, fun _ => by kernel_rfl⟩
theorem zero103 : ∀ w, (zeroValue 103).run Try.prog w = .ok (.slice none 0 0) w := fun _ => by kernel_rfl
theorem one104 : One Try.prog 104 := ⟨fun _ => by kernel_rfl, fun _ => by kernel_rfl⟩
theorem zero104 : ∀ w, (zeroValue 104).run Try.prog w = .ok (.slice none 0 0) w := fun _ => by kernel_rfl
theorem one107 : One Try.prog 107 := ⟨fun _ => by kernel_rfl, fun _ => by kernel_rfl⟩
theorem zero107 : ∀ w, (zeroValue 107).run Try.prog w = .ok (.nilFunc) w := fun _ => by kernel_rfl
theorem one108 : One Try.prog 108 := ⟨fun _ => by kernel_rfl, fun _ => by kernel_rfl⟩
theorem zero108 : ∀ w, (zeroValue 108).run Try.prog w = .ok (.nilFunc) w := fun _ => by kernel_rfl
theorem one109 : One Try.prog 109 := ⟨fun _ => by kernel_rfl, fun _ => by kernel_rfl⟩
theorem zero109 : ∀ w, (zeroValue 109).run Try.prog w = .ok (.nilFunc) w := fun _ => by kernel_rfl
theorem one110 : One Try.prog 110 := ⟨fun _ => by kernel_rfl, fun _ => by kernel_rfl⟩
theorem zero110 : ∀ w, (zeroValue 110).run Try.prog w = .ok (.nilFunc) w := fun _ => by kernel_rfl
theorem one111 : One Try.prog 111 := ⟨fun _ => by kernel_rfl, fun _ => by kernel_rfl⟩
theorem zero111 : ∀ w, (zeroValue 111).run Try.prog w = .ok (.nilFunc) w := fun _ => by kernel_rfl
theorem one114 : One Try.prog 114 := ⟨fun _ => by kernel_rfl, fun _ => by kernel_rfl⟩
theorem zero114 : ∀ w, (zeroValue 114).run Try.prog w = .ok (.nilFunc) w := fun _ => by kernel_rfl
theorem one120 : One Try.prog 120 := ⟨fun _ => by kernel_rfl, fun _ => by kernel_rfl⟩
theorem zero120 : ∀ w, (zeroValue 120).run Try.prog w = .ok (.nilFunc) w := fun _ => by kernel_rfl
theorem one125 : One Try.prog 125 := ⟨fun _ => by kernel_rfl, fun _ => by kernel_rfl⟩
theorem zero125 : ∀ w, (zeroValue 125).run Try.prog w = .ok (.pointer none) w := fun _ => by kernel_rfl
theorem und4 : Try.prog.underlying 4 = some .bool := by kernel_rfl
theorem und9 : Try.prog.underlying 9 = some .string := by kernel_rfl
theorem sl22 : SlT Try.prog 22 52 (.slice none 0 0) := ⟨by kernel_rfl, ⟨_, rfl, by kernel_rfl, by kernel_rfl, by decide⟩, rfl⟩
theorem und22 : Try.prog.underlying 22 = some (.slice (Try.prog.elem 22)) := by kernel_rfl
theorem sl23 : SlT Try.prog 23 4 (.bool false) := ⟨by kernel_rfl, ⟨_, rfl, by kernel_rfl, by kernel_rfl, by decide⟩, rfl⟩
theorem und23 : Try.prog.underlying 23 = some (.slice (Try.prog.elem 23)) := by kernel_rfl
theorem sl52 : SlT Try.prog 52 3 (.int .i64 0) := ⟨by kernel_rfl, ⟨_, rfl, by kernel_rfl, by kernel_rfl, by decide⟩, rfl⟩
theorem und52 : Try.prog.underlying 52 = some (.slice (Try.prog.elem 52)) := by kernel_rfl
theorem und56 : Try.prog.underlying 56 = some (.slice (Try.prog.elem 56)) := by kernel_rfl
theorem und60 : Try.prog.underlying 60 = some (.slice (Try.prog.elem 60)) := by kernel_rfl
theorem und67 : Try.prog.underlying 67 = some (.slice (Try.prog.elem 67)) := by kernel_rfl
theorem und68 : Try.prog.underlying 68 = some (.slice (Try.prog.elem 68)) := by kernel_rfl
theorem sl85 : SlT Try.prog 85 22 (.slice none 0 0) := ⟨by kernel_rfl, ⟨_, rfl, by kernel_rfl, by kernel_rfl, by decide⟩, rfl⟩
theorem und85 : Try.prog.underlying 85 = some (.slice (Try.prog.elem 85)) := by kernel_rfl
theorem und97 : Try.prog.underlying 97 = some (.slice (Try.prog.elem 97)) := by kernel_rfl
theorem sl103 : SlT Try.prog 103 5 (.int .u8 0) := ⟨by kernel_rfl, ⟨_, rfl, by kernel_rfl, by kernel_rfl, by decide⟩, rfl⟩
theorem und103 : Try.prog.underlying 103 = some (.slice (Try.prog.elem 103)) := by kernel_rfl
theorem und8_103 : Try.prog.underlying (Try.prog.elem 103) = some (.int .u8) := by kernel_rfl
theorem und104 : Try.prog.underlying 104 = some (.slice (Try.prog.elem 104)) := by kernel_rfl
theorem agg25 : Agg Try.prog 25 3 := ⟨fun _ => by kernel_rfl, fun _ => by kernel_rfl⟩
theorem zero25 : ∀ w, (zeroValue 25).run Try.prog w = .ok (.agg [.int .i64 0, .slice none 0 0, .slice none 0 0].toArray) w := fun _ => by kernel_rfl
theorem st25 : StT Try.prog 25 3 [.int .i64 0, .slice none 0 0, .slice none 0 0] := StT.of (by kernel_rfl) (fun _ => by kernel_rfl) zero25
theorem fld25_0 : Fld Try.prog 25 0 0 := fun _ _ _ => by kernel_rfl
theorem fld25_1 : Fld Try.prog 25 1 1 := fun _ _ _ => by kernel_rfl
theorem fld25_2 : Fld Try.prog 25 2 2 := fun _ _ _ => by kernel_rfl
theorem agg27 : Agg Try.prog 27 3 := ⟨fun _ => by kernel_rfl, fun _ => by kernel_rfl⟩
theorem zero27 : ∀ w, (zeroValue 27).run Try.prog w = .ok (.agg [.int .i64 0, .slice none 0 0, .slice none 0 0].toArray) w := fun _ => by kernel_rfl
theorem st27 : StT Try.prog 27 3 [.int .i64 0, .slice none 0 0, .slice none 0 0] := StT.of (by kernel_rfl) (fun _ => by kernel_rfl) zero27
theorem fld27_0 : Fld Try.prog 27 0 0 := fun _ _ _ => by kernel_rfl
theorem fld27_1 : Fld Try.prog 27 1 1 := fun _ _ _ => by kernel_rfl
theorem fld27_2 : Fld Try.prog 27 2 2 := fun _ _ _ => by kernel_rfl
theorem agg55 : Agg Try.prog 55 2 := ⟨fun _ => by kernel_rfl, fun _ => by kernel_rfl⟩
theorem zero55 : ∀ w, (zeroValue 55).run Try.prog w = .ok (.agg [.int .i64 0, .int .i64 0].toArray) w := fun _ => by kernel_rfl
theorem st55 : StT Try.prog 55 2 [.int .i64 0, .int .i64 0] := StT.of (by kernel_rfl) (fun _ => by kernel_rfl) zero55
theorem fld55_0 : Fld Try.prog 55 0 0 := fun _ _ _ => by kernel_rfl
theorem fld55_1 : Fld Try.prog 55 1 1 := fun _ _ _ => by kernel_rfl
theorem agg70 : Agg Try.prog 70 6 := ⟨fun _ => by kernel_rfl, fun _ => by kernel_rfl⟩
theorem zero70 : ∀ w, (zeroValue 70).run Try.prog w = .ok (.agg [.slice none 0 0, .slice none 0 0, .slice none 0 0, .int .i64 0, .int .i64 0, .int .i64 0].toArray) w := fun _ => by kernel_rfl
theorem st70 : StT Try.prog 70 6 [.slice none 0 0, .slice none 0 0, .slice none 0 0, .int .i64 0, .int .i64 0, .int .i64 0] := StT.of (by kernel_rfl) (fun _ => by kernel_rfl) zero70
theorem fld70_0 : Fld Try.prog 70 0 0 := fun _ _ _ => by kernel_rfl
theorem fld70_1 : Fld Try.prog 70 1 1 := fun _ _ _ => by kernel_rfl
theorem fld70_2 : Fld Try.prog 70 2 2 := fun _ _ _ => by kernel_rfl
theorem fld70_3 : Fld Try.prog 70 3 3 := fun _ _ _ => by kernel_rfl
theorem fld70_4 : Fld Try.prog 70 4 4 := fun _ _ _ => by kernel_rfl
theorem fld70_5 : Fld Try.prog 70 5 5 := fun _ _ _ => by kernel_rfl
theorem agg106 : Agg Try.prog 106 3 := ⟨fun _ => by kernel_rfl, fun _ => by kernel_rfl⟩
theorem zero106 : ∀ w, (zeroValue 106).run Try.prog w = .ok (.agg [.int .i64 0, .int .i64 0, .slice none 0 0].toArray) w := fun _ => by kernel_rfl
theorem st106 : StT Try.prog 106 3 [.int .i64 0, .int .i64 0, .slice none 0 0] := StT.of (by kernel_rfl) (fun _ => by kernel_rfl) zero106
theorem fld106_0 : Fld Try.prog 106 0 0 := fun _ _ _ => by kernel_rfl
theorem fld106_1 : Fld Try.prog 106 1 1 := fun _ _ _ => by kernel_rfl
theorem fld106_2 : Fld Try.prog 106 2 2 := fun _ _ _ => by kernel_rfl
theorem conv3_5 : Cnv Try.prog 3 5 .u8 := Cnv.of (by kernel_rfl) (by kernel_rfl)
theorem conv3_96 : Cnv Try.prog 3 96 .u64 := Cnv.of (by kernel_rfl) (by kernel_rfl)
theorem conv5_3 : Cnv Try.prog 5 3 .i64 := Cnv.of (by kernel_rfl) (by kernel_rfl)
theorem conv5_96 : Cnv Try.prog 5 96 .u64 := Cnv.of (by kernel_rfl) (by kernel_rfl)
theorem conv96_3 : Cnv Try.prog 96 3 .i64 := Cnv.of (by kernel_rfl) (by kernel_rfl)
theorem conv96_5 : Cnv Try.prog 96 5 .u8 := Cnv.of (by kernel_rfl) (by kernel_rfl)
theorem mk60 : (∃ i, Try.prog.info? 64 = some i ∧ i.zero = some (.agg #[.int .i64 0, .int .i64 0, .int .i64 0, .int .i64 0, .int .i64 0, .int .i64 0]) ∧ i.size = 6 ∧ i.bytes ≤ 512) ∧ ((.agg #[.int .i64 0, .int .i64 0, .int .i64 0, .int .i64 0, .int .i64 0, .int .i64 0]) : Value).cells.toList = List.replicate 6 (.int .i64 0) := ⟨⟨_, rfl, by kernel_rfl, by kernel_rfl, by decide⟩, by kernel_rfl⟩
theorem slk60 : SlK Try.prog 60 64 6 := ⟨by kernel_rfl, fun _ => by kernel_rfl⟩
theorem ar64 : ArT Try.prog 64 3 6 := ⟨by kernel_rfl, fun _ => by kernel_rfl⟩

/-- An automaton of the call's own, from block B on. -/
def OwnA (w : World) (B : Nat) (v : Value) (a : A) : Prop := ∃ nx ac, v = .agg #[.int .i64 a.al, nx, ac] ∧ OwnRows w B w.heap.size 52 3 nx a.next ∧ Own w B 4 ac (a.acc.map Value.bool)
def RowsA (w : World) (v : Value) (a : A) : Prop := ∃ nx ac, v = .agg #[.int .i64 a.al, nx, ac] ∧ Rows w 52 3 nx a.next ∧ Bools w 4 ac a.acc
end Go.Proofs.Ytdkdpmmfebdeaaa
