/- Lists of decimal digits to the base 10000: the laws of NumW, for the reference. By an AI agent. -/
import Derived.Test.YtgkicbaomcmfoaaGreatDoorFxC
set_option linter.unusedVariables false
set_option linter.unusedSimpArgs false
namespace Go.Fx
open Go
def dg : Nat → List Nat
  | 0 => []
  | n + 1 => ((n + 1) % 10000) :: dg ((n + 1) / 10000)
termination_by n => n
decreasing_by omega
def valD : List Nat → Nat
  | [] => 0
  | x :: l => x + 10000 * valD l
theorem dg_zero : dg 0 = [] := by unfold dg; rfl
theorem dg_pos {n : Nat} (h : n ≠ 0) : dg n = (n % 10000) :: dg (n / 10000) := by
  cases n with
  | zero => exact absurd rfl h
  | succ n => rw [dg]
theorem dg_lt : ∀ (n : Nat), ∀ x ∈ dg n, x < 10000 := by
  intro n
  induction n using Nat.strongRecOn with
  | _ n ih =>
    by_cases h : n = 0
    · subst h; rw [dg_zero]; intro x hx; cases hx
    · rw [dg_pos h]
      intro x hx
      rcases List.mem_cons.1 hx with rfl | hx
      · omega
      · exact ih _ (by omega) x hx
def Dd (l : List Nat) : Prop := ∀ x ∈ l, x < 10000
theorem Dd.dg (n : Nat) : Dd (dg n) := dg_lt n
theorem Dd.take {l : List Nat} (h : Dd l) (m : Nat) : Dd (l.take m) := fun x hx => h x (List.mem_of_mem_take hx)
theorem Dd.getD {l : List Nat} (h : Dd l) (j : Nat) : l.getD j 0 < 10000 := by
  rw [List.getD_eq_getElem?_getD]
  by_cases hj : j < l.length
  · rw [List.getElem?_eq_getElem hj]; exact h _ (List.getElem_mem hj)
  · rw [List.getElem?_eq_none (by omega)]; simp
theorem Dd.set {l : List Nat} (h : Dd l) (i v : Nat) (hv : v < 10000) : Dd (l.set i v) := by
  intro x hx
  rcases List.mem_or_eq_of_mem_set hx with h' | h'
  · exact h x h'
  · omega
theorem Dd.drop {l : List Nat} (h : Dd l) (m : Nat) : Dd (l.drop m) := fun x hx => h x (List.mem_of_mem_drop hx)
theorem Dd.append {l m : List Nat} (h : Dd l) (h' : Dd m) : Dd (l ++ m) := fun x hx => by
  rcases List.mem_append.1 hx with h1 | h1
  · exact h x h1
  · exact h' x h1
theorem Dd.zeros (k : Nat) : Dd (List.replicate k 0) := fun x hx => by have := List.eq_of_mem_replicate hx; omega
theorem GrowO.le {k : Nat} {E : TypeId} {ad : Option Addr} {m m' c : Nat} {xs : List Value} {o : List (Nat × Obj)} (h : GrowO k E (.slice ad m c) m' xs o) : m ≤ c := by
  obtain ⟨_, ⟨h, _, _⟩ | ⟨_, _, _, h, _, h3, _⟩⟩ := h
  · cases h; exact Nat.le_refl _
  · cases h; exact h3
theorem valD_drop_ge {l : List Nat} {i : Nat} (h : l.length ≤ i) : valD (l.drop i) = 0 := by rw [List.drop_eq_nil_of_le h]; rfl
end Go.Fx
