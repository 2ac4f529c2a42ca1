/-
  Walks, printed by a program out of the translation and a contract for each function; each step is one law.
-/
import Derived.Test.YtdkdpmmfebdeaaaNb
set_option linter.unusedSimpArgs false
set_option linter.unusedVariables false
namespace Go.Proofs.Ytdkdpmmfebdeaaa
open Go.RowKit

set_option maxRecDepth 100000 in
theorem prod1_c (w0 : World) (q y0 : Int) (a b : A) (bs bn bt b1 b2 : Nat) (xs ys : List Int) (hS : Blk w0 bs 60 [Value.slice (some ⟨b1, 0, none⟩) a.next.length a.next.length]) (hN : Blk w0 bn 3 [Value.int .i64 (List.length b.next : Int)]) (hT : Blk w0 bt 60 [Value.slice (some ⟨b2, 0, none⟩) b.next.length b.next.length]) (h1 : Blk w0 b1 64 (xs.map (Value.int .i64))) (h2 : Blk w0 b2 64 (ys.map (Value.int .i64))) (hTab : Tab a xs) (hTab' : Tab b ys) (hv : validA a = true) (hv' : validA b = true) (hq : InP a b q) (hx : 0 ≤ y0 ∧ y0 < 6) : Ret Try.prog 59 #[Value.int .i64 q, Value.int .i64 y0, Value.pointer (some ⟨bs, 0, none⟩), Value.pointer (some ⟨bn, 0, none⟩), Value.pointer (some ⟨bt, 0, none⟩)] w0 (fun v w => v = .int .i64 (fP a b q y0) ∧ Ext w0 w) := by
  have E := Ext.refl w0
  have hz := zero_in hv'
  have hz2 := (validA_spec.1 hv').2.1
  have hdv : (0 ≤ q / (List.length b.next : Int) ∧ q / (List.length b.next : Int) < (a.next.length : Int)) ∧ 0 ≤ q % (List.length b.next : Int) ∧ q % (List.length b.next : Int) < (List.length b.next : Int) := inP_div hv' hq
  have hmu := fP_mul hv hv' hq hx
  have hg2 : 0 ≤ goA b (q % (List.length b.next : Int)) y0 ∧ goA b (q % (List.length b.next : Int)) y0 < b.next.length := goA_in hv' hdv.2 hx
  have hqb : 0 ≤ q ∧ q ≤ 144 := ⟨hq.1, by have h8 := hq.2; have h9 := le144 hv hv'; omega⟩
  refine Ret.of (args := [Value.int .i64 q, Value.int .i64 y0, Value.pointer (some ⟨bs, 0, none⟩), Value.pointer (some ⟨bn, 0, none⟩), Value.pointer (some ⟨bt, 0, none⟩)]) Try.func59 rfl rfl rfl ?_
  rintro _ rfl
  show Cq _ _ _ _ [(0, Value.int .i64 q), (1, Value.int .i64 y0), (2, Value.pointer (some ⟨bs, 0, none⟩)), (3, Value.pointer (some ⟨bn, 0, none⟩)), (4, Value.pointer (some ⟨bt, 0, none⟩))] _
  refine Cq.seq ?_
  refine Cq.region ?_
  refine Sq.assign .plain rfl rfl ?_
  refine Sq.nil ?_
  refine Eq.next ?_
  refine Cq.seq ?_
  refine Cq.drawS 19 (fun w' => Blk w' bs 60 [Value.slice (some ⟨b1, 0, none⟩) a.next.length a.next.length] ∧ Blk w' bn 3 [Value.int .i64 (List.length b.next : Int)] ∧ Blk w' bt 60 [Value.slice (some ⟨b2, 0, none⟩) b.next.length b.next.length] ∧ Blk w' b1 64 (xs.map (Value.int .i64)) ∧ Blk w' b2 64 (ys.map (Value.int .i64))) mixed (⟨hS, hN, hT, h1, h2⟩) (fun w1 e2 hS => ?_)
  clear hS
  have hs3 := Below.size e2
  replace E := E.trans e2
  replace hS := hS.ext e2
  replace hN := hN.ext e2
  replace hT := hT.ext e2
  replace h1 := h1.ext e2
  replace h2 := h2.ext e2
  have E_w1 := E
  have hS_w1 := hS
  have hN_w1 := hN
  have hT_w1 := hT
  have h1_w1 := h1
  have h2_w1 := h2
  refine Gq.st 0 rfl (by kernel_rfl) rfl .plain rfl (fun _ _ _ h => h) ⟨hS, hN, hT, h1, h2⟩ (fun w' x => Still.loadB one60 rfl x.1 rfl) ?_
  refine Gq.st 1 rfl (by kernel_rfl) rfl .plain rfl (fun _ _ _ h => h) ⟨hS, hN, hT, h1, h2⟩ (fun w' x => Still.move rfl) ?_
  refine Gq.st 2 rfl (by kernel_rfl) rfl .plain rfl (fun _ _ _ h => h) ⟨hS, hN, hT, h1, h2⟩ (fun w' x => Still.loadB one3 rfl x.2.1 rfl) ?_
  refine Gq.st 3 rfl (by kernel_rfl) rfl .plain rfl (fun _ _ _ h => h) ⟨hS, hN, hT, h1, h2⟩ (fun w' x => Still.quo rfl rfl (by omega)) ?_
  refine Gq.st 4 rfl (by kernel_rfl) rfl .plain rfl (fun _ _ _ h => h) ⟨hS, hN, hT, h1, h2⟩ (fun w' x => Still.move rfl) ?_
  refine Gq.st 5 rfl (by kernel_rfl) rfl .plain rfl (fun _ _ _ h => h) ⟨hS, hN, hT, h1, h2⟩ (fun w' x => Still.ixS slk60 rfl rfl (by omega) (by omega)) ?_
  refine Gq.st 6 rfl (by kernel_rfl) rfl .plain rfl (fun _ _ _ h => h) ⟨hS, hN, hT, h1, h2⟩ (fun w' x => Still.ixA ar64 rfl rfl (by omega) (by omega)) ?_
  refine Gq.st 7 rfl (by kernel_rfl) rfl .plain rfl (fun _ _ _ h => h) ⟨hS, hN, hT, h1, h2⟩ (fun w' x => Still.loadB one3 rfl x.2.2.2.1 (by rw [Nat.zero_add, List.getElem?_map, hTab.2 (q / (List.length b.next : Int)) y0 (by first | omega | assumption) (by omega)]; rfl)) ?_
  refine Gq.st 8 rfl (by kernel_rfl) rfl .plain rfl (fun _ _ _ h => h) ⟨hS, hN, hT, h1, h2⟩ (fun w' x => Still.loadB one3 rfl x.2.1 rfl) ?_
  refine Gq.st 9 rfl (by kernel_rfl) rfl .plain rfl (fun _ _ _ h => h) ⟨hS, hN, hT, h1, h2⟩ (fun w' x => Still.mul rfl rfl (by omega)) ?_
  refine Gq.st 10 rfl (by kernel_rfl) rfl .plain rfl (fun _ _ _ h => h) ⟨hS, hN, hT, h1, h2⟩ (fun w' x => Still.loadB one60 rfl x.2.2.1 rfl) ?_
  refine Gq.st 11 rfl (by kernel_rfl) rfl .plain rfl (fun _ _ _ h => h) ⟨hS, hN, hT, h1, h2⟩ (fun w' x => Still.move rfl) ?_
  refine Gq.st 12 rfl (by kernel_rfl) rfl .plain rfl (fun _ _ _ h => h) ⟨hS, hN, hT, h1, h2⟩ (fun w' x => Still.loadB one3 rfl x.2.1 rfl) ?_
  refine Gq.st 13 rfl (by kernel_rfl) rfl .plain rfl (fun _ _ _ h => h) ⟨hS, hN, hT, h1, h2⟩ (fun w' x => Still.rem rfl rfl (by omega)) ?_
  refine Gq.st 14 rfl (by kernel_rfl) rfl .plain rfl (fun _ _ _ h => h) ⟨hS, hN, hT, h1, h2⟩ (fun w' x => Still.move rfl) ?_
  refine Gq.st 15 rfl (by kernel_rfl) rfl .plain rfl (fun _ _ _ h => h) ⟨hS, hN, hT, h1, h2⟩ (fun w' x => Still.ixS slk60 rfl rfl (by omega) (by omega)) ?_
  refine Gq.st 16 rfl (by kernel_rfl) rfl .plain rfl (fun _ _ _ h => h) ⟨hS, hN, hT, h1, h2⟩ (fun w' x => Still.ixA ar64 rfl rfl (by omega) (by omega)) ?_
  refine Gq.st 17 rfl (by kernel_rfl) rfl .plain rfl (fun _ _ _ h => h) ⟨hS, hN, hT, h1, h2⟩ (fun w' x => Still.loadB one3 rfl x.2.2.2.2 (by rw [Nat.zero_add, List.getElem?_map, hTab'.2 (q % (List.length b.next : Int)) y0 (by first | omega | assumption) (by omega)]; rfl)) ?_
  refine Gq.st 18 rfl (by kernel_rfl) rfl .plain rfl (fun _ _ _ h => h) ⟨hS, hN, hT, h1, h2⟩ (fun w' x => Still.add rfl rfl (by omega)) ?_
  refine Gq.one 19 rfl (by kernel_rfl) ?_
  refine Sq.assign .plain rfl rfl ?_
  refine Sq.nil ?_
  refine Eq.goes (fun h => absurd h (by decide)) ?_
  refine Gq.done (by kernel_rfl) ?_
  refine Eq.next ?_
  refine Cq.ret ?_
  refine Eq.ret1 rfl rfl ?_
  exact ⟨rfl, E⟩

end Go.Proofs.Ytdkdpmmfebdeaaa
