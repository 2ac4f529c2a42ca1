/-
  What a slice of bytes that came in is, told to the calculus of slots. Nothing of any one program stands here.
-/
import Derived.Test.YtdejmfkpohgamaaRnd
import Derived.Test.YtdejmfkpohgamaaStr
set_option linter.unusedSimpArgs false
set_option linter.unusedVariables false
namespace Go.Proofs.Ytdejmfkpohgamaa
open Go.RowKit

/-- A slice of integers that came in: it is nil; or it leads to a row of 'cap' cells, the numbers 'zs'. -/
def IsRow (k : IntKind) (w : World) (a : Option Addr) (len cap : Nat) (zs : List Int) : Prop :=
  (a = none ∧ len = 0 ∧ cap = 0 ∧ zs = []) ∨
  ∃ x, a = some x ∧ len ≤ cap ∧ cap ≤ maxLen ∧ zs.length = cap ∧ (∀ i, i < zs.length → w.cell? (x.add i) = some (.int k (zs.getD i 0))) ∧ ∀ n ∈ zs, (Lit.int k n).wf = true

theorem wf8 {n : Int} (h : (Lit.int .u8 n).wf = true) : 0 ≤ n ∧ n ≤ 255 := by
  simp [Lit.wf, IntKind.min, IntKind.max, IntKind.signed, IntKind.bits] at h
  omega
theorem bytes_of {w : World} {a : Option Addr} {len cap : Nat} {zs : List Int} (h : IsRow .u8 w a len cap zs) : ∃ e xs, len = List.length xs ∧ Bytes w e (.slice a xs.length cap) xs ∧ xs.length ≤ cap := by
  rcases h with ⟨rfl, rfl, rfl, rfl⟩ | ⟨x, rfl, hl, hm, hz, hcell, hwz⟩
  · exact ⟨0, [], rfl, .inl ⟨rfl, none, 0, rfl, fun _ => rfl⟩, Nat.le_refl _⟩
  · rcases Nat.eq_zero_or_pos len with h0 | h0
    · subst h0
      exact ⟨0, [], rfl, .inl ⟨rfl, some x, cap, rfl, fun h => by cases h⟩, Nat.zero_le _⟩
    · obtain ⟨b, o, s⟩ := x
      have hc := hcell 0 (by omega)
      have hs : s = none := by simpa [Addr.add] using World.cell?_spot hc
      subst hs
      have hb : ∃ cur e fr, w.heap[b]? = some (.cells cur e fr) := by
        rw [addr_add] at hc
        unfold World.cell? at hc
        simp only at hc
        cases hw : w.heap[b]? with
        | none => rw [hw] at hc; simp at hc
        | some ob =>
          rw [hw] at hc
          cases ob <;> simp at hc
          rename_i cur e fr
          exact ⟨cur, e, fr, rfl⟩
      obtain ⟨cur, e, fr, hb⟩ := hb
      have hlen : ((zs.take len).map fun z => UInt8.ofNat z.toNat).length = len := by simp; omega
      refine ⟨e, (zs.take len).map fun z => UInt8.ofNat z.toNat, hlen.symm, .inr ⟨b, o, cap, cur, fr, by simp, hb, fun i y hy => ?_⟩, by omega⟩
      have hi : i < len := by
        have := (List.getElem?_eq_some_iff.1 hy).1
        simp at this; omega
      have hi2 : i < zs.length := by omega
      have h1 := hcell i hi2
      rw [addr_add] at h1
      have h2 : y = .int .u8 (zs.getD i 0) := by
        have hw := wf8 (hwz _ (List.getElem_mem hi2))
        have e2 := u8_of hw
        simp [List.getElem?_take, hi, hi2] at hy
        rw [← hy]
        simp [hi2]
        omega
      rw [h2]
      simpa [World.cell?, hb] using h1
end Go.Proofs.Ytdejmfkpohgamaa
