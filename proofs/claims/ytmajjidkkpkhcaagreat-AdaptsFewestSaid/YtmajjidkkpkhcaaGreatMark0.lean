/- Written by a program of ours (gen.py) out of short specifications. By an AI agent. -/
import Derived.Test.YtmajjidkkpkhcaaGreatAdapts1
import Derived.Test.YtmajjidkkpkhcaaGreatFxZ
set_option linter.unusedVariables false
set_option linter.unusedSimpArgs false
set_option maxRecDepth 4000
namespace Go.Proofs.YtmajjidkkpkhcaaGreat
open Go Go.Proofs Go.Fx
attribute [local irreducible] Oper.wp Code.wp wpList Fx.Head wpOp

theorem sgn_neg (x : Rat) : x.num.sign < 0 ↔ x < 0 := by
  rw [Int.sign_neg_iff]
  have h := @Rat.num_nonneg x
  constructor
  · intro h1; exact Rat.not_le.1 (fun h2 => by have := h.2 h2; omega)
  · intro h1; have : ¬ 0 ≤ x.num := fun h2 => absurd (h.1 h2) (Rat.not_le.2 h1); omega
theorem sgn_zero (x : Rat) : x.num.sign = 0 ↔ x = 0 := by rw [Int.sign_eq_zero_iff_zero]; exact Rat.num_eq_zero
theorem sgn_pos (x : Rat) : x.num.sign > 0 ↔ 0 < x := by
  have h1 := sgn_neg x
  have h2 := sgn_zero x
  have h3 : 0 < x ↔ ¬ x < 0 ∧ ¬ x = 0 := by grind
  rw [h3, ← h1, ← h2]; omega
theorem sgs_neg (x y : Rat) : (x - y).num.sign < 0 ↔ x < y := by rw [sgn_neg]; grind
theorem sgs_zero (x y : Rat) : (x - y).num.sign = 0 ↔ x = y := by rw [sgn_zero]; grind
theorem sgs_pos (x y : Rat) : (x - y).num.sign > 0 ↔ y < x := by rw [sgn_pos]; grind
theorem cmpZ_neg (i k : Int) : cmpZ i k < 0 ↔ i < k := by unfold cmpZ; split <;> (try split) <;> omega
/-- Index i stands before index k. -/
def ltN (E : List Rat) (i k : Nat) : Bool := decide (cfN E i k < 0)
theorem ltN_iff (E : List Rat) (i k : Nat) : ltN E i k = true ↔ E.getD k 0 < E.getD i 0 ∨ (E.getD k 0 = E.getD i 0 ∧ i < k) := by
  unfold ltN cfN
  rw [decide_eq_true_iff]
  have h1 := sgs_neg (E.getD k 0) (E.getD i 0)
  have h2 := sgs_zero (E.getD k 0) (E.getD i 0)
  have h3 := cmpZ_neg (i : Int) (k : Int)
  simp only [orI]
  by_cases h : (E.getD k 0 - E.getD i 0).num.sign = 0
  · rw [if_neg (by simpa using h)]
    have e := h2.1 h
    have hn : ¬ E.getD k 0 < E.getD i 0 := by grind
    have h5 : (if cmpZ (i : Int) (k : Int) ≠ 0 then cmpZ (i : Int) (k : Int) else 0) = cmpZ (i : Int) (k : Int) := by
      by_cases h6 : cmpZ (i : Int) (k : Int) = 0
      · rw [if_neg (by simpa using h6), h6]
      · rw [if_pos h6]
    rw [h5, h3]
    constructor
    · intro h6; exact .inr ⟨e, by omega⟩
    · rintro (h6 | ⟨_, h6⟩)
      · exact absurd h6 hn
      · omega
  · rw [if_pos h, h1]
    have e : ¬ E.getD k 0 = E.getD i 0 := fun e => h (h2.2 e)
    exact ⟨.inl, fun h6 => h6.elim id (fun h7 => absurd h7.1 e)⟩
theorem ltN_irrefl (E : List Rat) (i : Nat) : ltN E i i = false := by
  rw [Bool.eq_false_iff]; intro h; rw [ltN_iff] at h; grind
theorem ltN_trans (E : List Rat) (i j k : Nat) : ltN E i j = true → ltN E j k = true → ltN E i k = true := by
  rw [ltN_iff, ltN_iff, ltN_iff]; grind
theorem ltN_total (E : List Rat) (i k : Nat) : ltN E i k = false → ltN E k i = false → i = k := by
  rw [Bool.eq_false_iff, Bool.eq_false_iff, Ne, Ne, ltN_iff, ltN_iff]; grind
theorem ltN_ntrans (E : List Rat) (i j k : Nat) : ltN E i j = false → ltN E j k = false → ltN E i k = false := by
  rw [Bool.eq_false_iff, Bool.eq_false_iff, Bool.eq_false_iff, Ne, Ne, Ne, ltN_iff, ltN_iff, ltN_iff]; grind
/-- The indices in the order of marking. -/
def ordL (E : List Rat) : List Nat := (List.range E.length).mergeSort (fun x y => !ltN E y x)
theorem ordL_perm (E : List Rat) : (ordL E).Perm (List.range E.length) := List.mergeSort_perm _ _
theorem ordL_len (E : List Rat) : (ordL E).length = E.length := by rw [(ordL_perm E).length_eq, List.length_range]
theorem ordL_lt (E : List Rat) {i : Nat} (h : i ∈ ordL E) : i < E.length := List.mem_range.1 ((ordL_perm E).mem_iff.1 h)
theorem ordL_nodup (E : List Rat) : (ordL E).Nodup := (ordL_perm E).nodup_iff.2 List.nodup_range
theorem ordL_sorted (E : List Rat) : (ordL E).Pairwise (fun x y => ltN E x y = true) := by
  have h := List.pairwise_mergeSort (le := fun x y => !ltN E y x) (fun a b c h1 h2 => by
    have h1' : ltN E b a = false := by simpa using h1
    have h2' : ltN E c b = false := by simpa using h2
    simp [ltN_ntrans E c b a h2' h1']) (fun a b => by
    cases h1 : ltN E b a <;> simp
    cases h2 : ltN E a b <;> simp
    have := ltN_trans E a b a h2 h1
    rw [ltN_irrefl] at this; cases this) (List.range E.length)
  refine (h.and (ordL_nodup E)).imp ?_
  rintro a b ⟨h1, h2⟩
  cases h3 : ltN E a b
  · exact absurd (ltN_total E a b h3 (by simpa using h1)) h2
  · rfl
def sumL (E : List Rat) : Rat := E.foldl (· + ·) 0
def sumF (E : List Rat) (l : List Nat) : Rat := l.foldl (fun s k => s + E.getD k 0) 0
/-- What is left of the wanted sum behind j marks. -/
def leftN (E : List Rat) (t : Rat) : Nat → Rat
  | 0 => t * sumL E
  | j + 1 => leftN E t j - E.getD ((ordL E).getD j 0) 0
theorem sumF_snoc (E : List Rat) (l : List Nat) (k : Nat) : sumF E (l ++ [k]) = sumF E l + E.getD k 0 := by unfold sumF; rw [List.foldl_append]; rfl
theorem sumF_perm (E : List Rat) {l m : List Nat} (h : l.Perm m) : sumF E l = sumF E m :=
  h.foldl_eq' (fun x _ y _ z => by grind) 0
theorem sumF_range (E : List Rat) : sumF E (List.range E.length) = sumL E := by
  have : ∀ i, i ≤ E.length → sumF E (List.range i) = (E.take i).foldl (· + ·) 0 := by
    intro i
    induction i with
    | zero => intro _; rfl
    | succ i ih => intro h; rw [List.range_succ, sumF_snoc, ih (by omega), foldl_take_succ E 0 i 0 (by omega)]
  rw [this _ (Nat.le_refl _), List.take_length]; rfl
theorem take_snoc {l : List Nat} {j : Nat} (h : j < l.length) : l.take (j + 1) = l.take j ++ [l.getD j 0] := by
  rw [List.take_add_one]; simp [List.getD, h]
theorem leftN_eq (E : List Rat) (t : Rat) : ∀ j, j ≤ E.length → leftN E t j = t * sumL E - sumF E ((ordL E).take j)
  | 0, _ => by rw [leftN, List.take_zero]; unfold sumF; rw [List.foldl_nil]; grind
  | j + 1, h => by
    rw [leftN, leftN_eq E t j (by omega), take_snoc (by rw [ordL_len]; omega), sumF_snoc]; grind
theorem sumL_nonneg {E : List Rat} (h : ∀ x ∈ E, 0 ≤ x) : 0 ≤ sumL E := by
  have : ∀ (l : List Rat) (s : Rat), (∀ x ∈ l, 0 ≤ x) → 0 ≤ s → 0 ≤ l.foldl (· + ·) s := by
    intro l
    induction l with
    | nil => intro s _ h; exact h
    | cons x l ih => intro s hl hs; exact ih _ (fun y hy => hl y (List.mem_cons_of_mem _ hy)) (by have := hl x List.mem_cons_self; grind)
  exact this E 0 h (by decide)
theorem getD_nonneg {E : List Rat} (h : ∀ x ∈ E, 0 ≤ x) (i : Nat) : 0 ≤ E.getD i 0 := by
  rcases Nat.lt_or_ge i E.length with h1 | h1
  · exact h _ (getD_mem E h1)
  · rw [List.getD, List.getElem?_eq_none h1]; decide
theorem leftN_mono {E : List Rat} (h : ∀ x ∈ E, 0 ≤ x) (t : Rat) (j : Nat) : ∀ k, leftN E t (j + k) ≤ leftN E t j
  | 0 => by grind
  | k + 1 => by
    have h1 := leftN_mono h t j k
    have h2 := getD_nonneg h ((ordL E).getD (j + k) 0)
    rw [← Nat.add_assoc, leftN]; grind
theorem leftN_end {E : List Rat} (h : ∀ x ∈ E, 0 ≤ x) {t : Rat} (ht : t ≤ 1) : leftN E t E.length ≤ 0 := by
  rw [leftN_eq E t _ (Nat.le_refl _), ← ordL_len, List.take_length, sumF_perm E (ordL_perm E), sumF_range]
  have h1 := sumL_nonneg h
  have h2 : t * sumL E ≤ 1 * sumL E := Rat.mul_le_mul_of_nonneg_right ht h1
  grind
theorem leftN_lt {E : List Rat} (h : ∀ x ∈ E, 0 ≤ x) {t : Rat} (ht : t ≤ 1) {j : Nat} (hj : j ≤ E.length) (hp : 0 < leftN E t j) : j < E.length := by
  rcases Nat.lt_or_ge j E.length with h1 | h1
  · exact h1
  · rw [show j = E.length by omega] at hp; have := leftN_end h ht; grind
/-- The sum of the indicators that stand before one. -/
def havN (E : List Rat) (i : Nat) : Rat := sumF E ((List.range E.length).filter (fun k => ltN E k i))
/-- The indices that are marked. -/
def refL (E : List Rat) (t : Rat) : List Nat := (List.range E.length).filter (fun i => decide (havN E i < t * sumL E))
theorem filter_split {α : Type} (p : α → Bool) : ∀ (l : List α) (m : Nat), (∀ x ∈ l.take m, p x = true) → (∀ x ∈ l.drop m, p x = false) → l.filter p = l.take m := by
  intro l m h1 h2
  conv => lhs; rw [← List.take_append_drop m l]
  rw [List.filter_append, List.filter_eq_self.2 h1, List.filter_eq_nil_iff.2 (fun x hx => by rw [h2 x hx]; decide), List.append_nil]
theorem havN_at (E : List Rat) (t : Nat) (h : t < (ordL E).length) : havN E ((ordL E).getD t 0) = sumF E ((ordL E).take t) := by
  unfold havN
  have hs := ordL_sorted E
  have e : (ordL E).filter (fun k => ltN E k ((ordL E).getD t 0)) = (ordL E).take t := by
    refine filter_split _ _ _ (fun x hx => ?_) (fun x hx => ?_)
    · obtain ⟨j, hj, rfl⟩ := List.mem_iff_getElem.1 hx
      rw [List.length_take] at hj
      rw [List.getElem_take, List.getD, List.getElem?_eq_getElem h]
      exact List.pairwise_iff_getElem.1 hs j t (by omega) h (by omega)
    · obtain ⟨j, hj, rfl⟩ := List.mem_iff_getElem.1 hx
      rw [List.length_drop] at hj
      rw [List.getElem_drop, List.getD, List.getElem?_eq_getElem h]
      rcases Nat.eq_zero_or_pos j with rfl | hj0
      · simp only [Nat.add_zero]; exact ltN_irrefl E _
      · have h3 := List.pairwise_iff_getElem.1 hs t (t + j) h (by omega) (by omega)
        rw [Bool.eq_false_iff]; intro h4
        have h5 := ltN_trans E _ _ _ h3 h4
        simp only [Option.getD_some] at h5
        rw [ltN_irrefl] at h5; cases h5
  rw [← e]
  exact sumF_perm E (((ordL_perm E).filter _).symm)
theorem mark_take {E : List Rat} (hE : ∀ x ∈ E, 0 ≤ x) (t : Rat) {m : Nat} (hm : m ≤ E.length) (h1 : ∀ j, j < m → 0 < leftN E t j) (h2 : ¬ 0 < leftN E t m) : (ordL E).filter (fun i => decide (havN E i < t * sumL E)) = (ordL E).take m := by
  have hl := ordL_len E
  have key : ∀ j (hj : j < (ordL E).length), (havN E (ordL E)[j] < t * sumL E ↔ 0 < leftN E t j) := by
    intro j hj
    have h3 := havN_at E j hj
    rw [List.getD, List.getElem?_eq_getElem hj] at h3
    simp only [Option.getD_some] at h3
    rw [h3, leftN_eq E t j (by omega)]; grind
  refine filter_split _ _ _ (fun x hx => ?_) (fun x hx => ?_)
  · obtain ⟨j, hj, rfl⟩ := List.mem_iff_getElem.1 hx
    rw [List.length_take] at hj
    rw [List.getElem_take, decide_eq_true_iff, key j (by omega)]
    exact h1 j (by omega)
  · obtain ⟨j, hj, rfl⟩ := List.mem_iff_getElem.1 hx
    rw [List.length_drop] at hj
    rw [List.getElem_drop, decide_eq_false_iff_not, key (m + j) (by omega)]
    have := leftN_mono hE t m j
    grind
theorem sort_unique {l m : List Nat} (hp : l.Perm m) (hm : m.Pairwise (· ≤ ·)) : l.mergeSort (fun x y => decide (x ≤ y)) = m := by
  have hs : (l.mergeSort (fun x y => decide (x ≤ y))).Pairwise (· ≤ ·) := (List.pairwise_mergeSort (le := fun x y : Nat => decide (x ≤ y)) (fun a b c h1 h2 => by simp at *; omega) (fun a b => by simp; omega) l).imp (fun h => by simpa using h)
  exact List.Perm.eq_of_pairwise (fun a b _ _ h1 h2 => Nat.le_antisymm h1 h2) hs hm ((List.mergeSort_perm _ _).trans hp)
theorem refL_sorted (E : List Rat) (t : Rat) : (refL E t).Pairwise (· < ·) := List.pairwise_lt_range.filter _
theorem mark_eq {E : List Rat} (hE : ∀ x ∈ E, 0 ≤ x) (t : Rat) {m : Nat} (hm : m ≤ E.length) (h1 : ∀ j, j < m → 0 < leftN E t j) (h2 : ¬ 0 < leftN E t m) :
    ((ordL E).take m).mergeSort (fun x y => decide (x ≤ y)) = refL E t := by
  refine sort_unique ?_ ((refL_sorted E t).imp Nat.le_of_lt)
  rw [← mark_take hE t hm h1 h2]
  exact (ordL_perm E).filter _
end Go.Proofs.YtmajjidkkpkhcaaGreat
