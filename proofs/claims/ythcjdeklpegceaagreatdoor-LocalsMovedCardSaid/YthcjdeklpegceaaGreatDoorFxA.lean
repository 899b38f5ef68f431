/- Rows of values that take several cells each. By an AI agent. -/
import Derived.Test.YthcjdeklpegceaaGreatDoorNumK
set_option linter.unusedVariables false
set_option linter.unusedSimpArgs false
set_option linter.unusedSectionVars false
namespace Go.Fx
open Go
def cellsOf {α : Type} (enc : α → Value) (l : List α) : List Value := l.flatMap fun x => (enc x).cells.toList
variable {α : Type} {enc : α → Value} {k : Nat}
theorem cellsOf_length (hk : ∀ x, (enc x).cells.size = k) (l : List α) : (cellsOf enc l).length = l.length * k := by
 induction l with
 | nil => simp [cellsOf]
 | cons x l ih =>
  simp only [cellsOf, List.flatMap_cons, List.length_append, Array.length_toList, hk, List.length_cons] at ih ⊢
  rw [ih, Nat.add_mul, Nat.one_mul, Nat.add_comm]
theorem Qj (l m : List α) : cellsOf enc (l ++ m) = cellsOf enc l ++ cellsOf enc m := by simp [cellsOf]
theorem Xq (x : α) : cellsOf enc [x] = (enc x).cells.toList := by simp [cellsOf]
theorem Zi7 (hk : ∀ x, (enc x).cells.size = k) : ∀ (l : List α) (j i : Nat) (h : j < l.length), i < k → (cellsOf enc l)[j * k + i]? = (enc l[j]).cells.toList[i]?
 | [], _, _, h, _ => by simp at h
 | x :: l, 0, i, _, hi => by
  simp only [cellsOf, List.flatMap_cons, Nat.zero_mul, Nat.zero_add, List.getElem_cons_zero]
  rw [List.getElem?_append_left (by simp [hk]; exact hi)]
 | x :: l, j + 1, i, h, hi => by
  have ih := Zi7 hk l j i (by simpa using h) hi
  simp only [cellsOf, List.flatMap_cons, List.getElem_cons_succ] at ih ⊢
  rw [List.getElem?_append_right (by simp [hk, Nat.add_mul]; omega)]
  simp only [Array.length_toList, hk]
  rw [← ih]
  congr 1
  rw [Nat.add_mul]; omega
theorem Yw (n : Nat) (x : α) : cellsOf enc (List.replicate n x) = Zfa n (enc x).cells.toList := by
 simp [cellsOf, Zfa, List.flatMap_replicate]
theorem Zq (hk : ∀ x, (enc x).cells.size = k) (hv : ∀ x, enc x = .agg (enc x).cells) (l : List α) (d : α) (j : Nat) (h : j < l.length) : Qe true k (cellsOf enc l).toArray (j * k) = some (enc (l.getD j d)) := by
 have hle : j * k + k ≤ (cellsOf enc l).length := by
  rw [cellsOf_length hk]
  have := Nat.mul_le_mul_right k (show j + 1 ≤ l.length from h)
  rw [Nat.add_mul] at this; omega
 have he : (cellsOf enc l).toArray.extract (j * k) (j * k + k) = (enc (l.getD j d)).cells := by
  have hg : l.getD j d = l[j] := by simp [List.getD, h]
  rw [hg]
  apply Array.ext
  · simp [hk]; omega
  ·
   intro i h1 h2
   have hi : i < k := by rw [hk] at h2; exact h2
   have := Zi7 hk l j i h hi
   rw [List.getElem?_eq_getElem (by omega)] at this
   simp at this ⊢
   rw [Array.getElem?_eq_getElem h2] at this
   exact Option.some.inj this
 simp only [Qe, if_true]
 rw [if_pos (by simpa using hle), he, ← hv]
theorem Zbh : ∀ (ys p q r : List Value), q.length = ys.length → Qc (p ++ q ++ r).toArray p.length ys = (p ++ ys ++ r).toArray
 | [], p, q, r, h => by
  have : q = [] := List.eq_nil_of_length_eq_zero (by simpa using h)
  subst this; simp [Qc]
 | y :: ys, p, [], r, h => by simp at h
 | y :: ys, p, x :: q, r, h => by
  have e : (p ++ (x :: q) ++ r).toArray.setIfInBounds p.length y = ((p ++ [y]) ++ q ++ r).toArray := by
   apply Array.ext'
   simp [List.set_append]
  rw [Qc, e]
  have := Zbh ys (p ++ [y]) q r (by simpa using h)
  simp only [List.length_append, List.length_cons, List.length_nil, Nat.zero_add] at this
  rw [this]
  simp
theorem Zub (hk : ∀ x, (enc x).cells.size = k) (l : List α) (j : Nat) (h : j < l.length) (y : α) : Qc (cellsOf enc l).toArray (j * k) (enc y).cells.toList = (cellsOf enc (l.set j y)).toArray := by
 have e1 : l = l.take j ++ [l[j]] ++ l.drop (j + 1) := by simp
 have e2 : l.set j y = l.take j ++ [y] ++ l.drop (j + 1) := by
  rw [List.set_eq_take_append_cons_drop, if_pos h]; simp
 have hl : (cellsOf enc (l.take j)).length = j * k := by rw [cellsOf_length hk]; simp [Nat.min_eq_left (Nat.le_of_lt h)]
 rw [e2]
 conv => lhs; rw [e1]
 rw [Qj, Qj, Qj, Qj, Xq, Xq, ← hl]
 exact Zbh _ _ _ _ (by simp [hk])
end Go.Fx
