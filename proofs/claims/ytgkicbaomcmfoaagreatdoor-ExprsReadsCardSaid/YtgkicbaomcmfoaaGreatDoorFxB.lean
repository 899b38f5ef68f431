/- More calls of function values, and small helps. By an AI agent. -/
import Derived.Test.YtgkicbaomcmfoaaGreatDoorFxA
set_option linter.unusedVariables false
set_option linter.unusedSimpArgs false
set_option linter.unusedSectionVars false
namespace Go.Fx
open Go Go.RowKit
variable {P : Program} {n : Nat} {S : Nat → Prop} {w0 : World} {L : List (Nat × Value)} {σ : List (Nat × Obj)} {Φ : List Zp} {a : Act} {w : World} {K : Act → World → Prop} {Q : Exit → Act → World → Prop}
theorem St.same (h : St n S w0 L σ Φ a w) {L' : List (Nat × Value)} {σ' : List (Nat × Obj)} {Φ' : List Zp} (h1 : L = L') (h2 : σ = σ') (h3 : Φ = Φ') : St n S w0 L' σ' Φ' a w := by
 subst h1; subst h2; subst h3; exact h
section
variable {α : Type} {enc : α → Value} {k : Nat}
theorem Za5 (hk : ∀ x, (enc x).cells.size = k) (l : List α) (j : Nat) (h : j < l.length) : 0 + j * k + k ≤ (cellsOf enc l).toArray.size := by
 rw [List.size_toArray, cellsOf_length hk]
 have := Nat.mul_le_mul_right k (show j + 1 ≤ l.length from h)
 rw [Nat.add_mul] at this; omega
theorem cells_lt (hk0 : 0 < k) (hk : ∀ x, (enc x).cells.size = k) (l : List α) (j : Nat) (h : j < l.length) : j * k < (cellsOf enc l).length := by
 rw [cellsOf_length hk]
 have := Nat.mul_le_mul_right k (show j + 1 ≤ l.length from h)
 rw [Nat.add_mul] at this; omega
theorem Zou (hk : ∀ x, (enc x).cells.size = k) (hv : ∀ x, enc x = .agg (enc x).cells) (l : List α) (d : α) (j : Nat) (h : j < l.length) : Qu true k (cellsOf enc l).toArray (0 + j * k) = some (enc (l.getD j d)) := by
 rw [Nat.zero_add]; exact Qn hk hv l d j h
theorem Ku (hk : ∀ x, (enc x).cells.size = k) (l : List α) (j : Nat) (h : j < l.length) (y : α) : Qq (cellsOf enc l).toArray (0 + j * k) (enc y).cells.toList = (cellsOf enc (l.set j y)).toArray := by
 rw [Nat.zero_add]; exact Zu5 hk l j h y
end
end Go.Fx
