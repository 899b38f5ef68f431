/- More calls of function values, and small helps. By an AI agent. -/
import Derived.Test.YtgkicbaomcmfoaaGreatDoorFxA
set_option linter.unusedVariables false
set_option linter.unusedSimpArgs false
set_option linter.unusedSectionVars false
namespace Go.Fx
open Go Go.RowKit
variable {P : Program} {n : Nat} {S : Nat → Prop} {w0 : World} {L : List (Nat × Value)} {σ : List (Nat × Obj)} {Φ : List SPred} {a : Act} {w : World} {K : Act → World → Prop} {Q : Exit → Act → World → Prop}
theorem St.same (h : St n S w0 L σ Φ a w) {L' : List (Nat × Value)} {σ' : List (Nat × Obj)} {Φ' : List SPred} (h1 : L = L') (h2 : σ = σ') (h3 : Φ = Φ') : St n S w0 L' σ' Φ' a w := by
  subst h1; subst h2; subst h3; exact h
section
variable {α : Type} {enc : α → Value} {k : Nat}
theorem cells_le (hk : ∀ x, (enc x).cells.size = k) (l : List α) (j : Nat) (h : j < l.length) : 0 + j * k + k ≤ (cellsOf enc l).toArray.size := by
  rw [List.size_toArray, cellsOf_length hk]
  have := Nat.mul_le_mul_right k (show j + 1 ≤ l.length from h)
  rw [Nat.add_mul] at this; omega
theorem cells_lt (hk0 : 0 < k) (hk : ∀ x, (enc x).cells.size = k) (l : List α) (j : Nat) (h : j < l.length) : j * k < (cellsOf enc l).length := by
  rw [cellsOf_length hk]
  have := Nat.mul_le_mul_right k (show j + 1 ≤ l.length from h)
  rw [Nat.add_mul] at this; omega
end
end Go.Fx
