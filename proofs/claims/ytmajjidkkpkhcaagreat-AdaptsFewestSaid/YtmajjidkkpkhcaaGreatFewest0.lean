/- Written by a program of ours (gen.py) out of short specifications. By an AI agent. -/
import Derived.Test.YtmajjidkkpkhcaaGreatLaw44d
import Derived.Test.YtmajjidkkpkhcaaGreatFxZ
set_option linter.unusedVariables false
set_option linter.unusedSimpArgs false
set_option maxRecDepth 4000
namespace Go.Proofs.YtmajjidkkpkhcaaGreat
open Go Go.Proofs Go.Fx
attribute [local irreducible] Oper.wp Code.wp wpList Fx.Head wpOp

theorem ex_m {E : List Rat} (hE : ∀ x ∈ E, 0 ≤ x) {t : Rat} (ht : t ≤ 1) : ∃ m, m ≤ E.length ∧ (∀ j, j < m → 0 < leftN E t j) ∧ ¬ 0 < leftN E t m := by
  have key : ∀ n, n ≤ E.length → (∃ m, m ≤ n ∧ (∀ j, j < m → 0 < leftN E t j) ∧ ¬ 0 < leftN E t m) ∨ (∀ j, j ≤ n → 0 < leftN E t j) := by
    intro n
    induction n with
    | zero =>
      intro _
      by_cases h : 0 < leftN E t 0
      · exact .inr (fun j hj => by rw [show j = 0 by omega]; exact h)
      · exact .inl ⟨0, Nat.le_refl _, fun j hj => absurd hj (by omega), h⟩
    | succ n ih =>
      intro hn
      rcases ih (by omega) with ⟨m, h1, h2, h3⟩ | h
      · exact .inl ⟨m, by omega, h2, h3⟩
      · by_cases h4 : 0 < leftN E t (n + 1)
        · refine .inr (fun j hj => ?_)
          rcases Nat.lt_or_ge j (n + 1) with h5 | h5
          · exact h j (by omega)
          · rw [show j = n + 1 by omega]; exact h4
        · exact .inl ⟨n + 1, Nat.le_refl _, fun j hj => h j (by omega), h4⟩
  rcases key E.length (Nat.le_refl _) with ⟨m, h1, h2, h3⟩ | h
  · exact ⟨m, h1, h2, h3⟩
  · have h1 := h E.length (Nat.le_refl _)
    have h2 := leftN_end hE ht
    grind
/-- What the marking of the fewest must satisfy. -/
structure Few (E : List Rat) (t : Rat) : Prop where
  lt : ∀ i ∈ refL E t, i < E.length
  inc : ∀ i j, i < j → j < (refL E t).length → (refL E t).getD i 0 < (refL E t).getD j 0
  enough : t * sumL E ≤ sumF E (refL E t)
  few : ∀ s : Rat, (∃ k ∈ refL E t, s = E.getD k 0) → (∀ k ∈ refL E t, s ≤ E.getD k 0) → sumF E (refL E t) - s < t * sumL E ∧ ∀ k, k < E.length → k ∉ refL E t → E.getD k 0 ≤ s
theorem ltN_ge {E : List Rat} {i k : Nat} (h : ltN E i k = true) : E.getD k 0 ≤ E.getD i 0 := by
  rw [ltN_iff] at h; grind
theorem few_of {E : List Rat} (hE : ∀ x ∈ E, 0 ≤ x) {t : Rat} (ht : t ≤ 1) : Few E t := by
  obtain ⟨m, hm, h1, h2⟩ := ex_m hE ht
  have hp : (refL E t).Perm ((ordL E).take m) := by
    rw [← mark_take hE t hm h1 h2]
    exact ((ordL_perm E).filter _).symm
  have hl := ordL_len E
  have hsum : sumF E (refL E t) = t * sumL E - leftN E t m := by
    rw [sumF_perm E hp, leftN_eq E t m hm]; grind
  refine ⟨fun i hi => ordL_lt E (List.mem_of_mem_take (hp.mem_iff.1 hi)), fun i j hij hj => ?_, by rw [hsum]; grind, fun s ⟨k0, hk0, hs⟩ hmin => ?_⟩
  · have := List.pairwise_iff_getElem.1 (refL_sorted E t) i j (by omega) hj hij
    simp only [List.getD, List.getElem?_eq_getElem hj, List.getElem?_eq_getElem (show i < (refL E t).length by omega), Option.getD_some]
    exact this
  · have hm0 : 0 < m := by
      rcases Nat.eq_zero_or_pos m with h0 | h0
      · subst h0; have := hp.mem_iff.1 hk0; rw [List.take_zero] at this; cases this
      · exact h0
    obtain ⟨q, rfl⟩ : ∃ q, m = q + 1 := ⟨m - 1, by omega⟩
    have hq : q < (ordL E).length := by omega
    have hlast : (ordL E)[q] ∈ refL E t := hp.mem_iff.2 (by
      rw [List.mem_take_iff_getElem]
      exact ⟨q, by omega, rfl⟩)
    have hso := List.pairwise_iff_getElem.1 (ordL_sorted E)
    have hle : s ≤ E.getD ((ordL E)[q]) 0 := hmin _ hlast
    have hge : E.getD ((ordL E)[q]) 0 ≤ s := by
      obtain ⟨j, hj, hjk⟩ := List.mem_iff_getElem.1 (hp.mem_iff.1 hk0)
      rw [List.length_take] at hj
      rw [List.getElem_take] at hjk
      rw [hs, ← hjk]
      rcases Nat.lt_or_ge j q with h3 | h3
      · exact ltN_ge (hso j q (by omega) hq h3)
      · have : j = q := by omega
        subst this; exact Rat.le_refl
    have hse : s = E.getD ((ordL E)[q]) 0 := Rat.le_antisymm hle hge
    refine ⟨?_, fun k hk hnk => ?_⟩
    · have hq1 := h1 q (by omega)
      have hlq : leftN E t (q + 1) = leftN E t q - E.getD ((ordL E)[q]) 0 := by
        rw [leftN]; simp only [List.getD, List.getElem?_eq_getElem hq, Option.getD_some]
      rw [hsum, hlq, hse]; grind
    · have hkm : k ∈ ordL E := (ordL_perm E).mem_iff.2 (List.mem_range.2 hk)
      obtain ⟨j, hj, hjk⟩ := List.mem_iff_getElem.1 hkm
      rcases Nat.lt_or_ge j (q + 1) with h3 | h3
      · exact absurd (hp.mem_iff.2 (by rw [List.mem_take_iff_getElem]; exact ⟨j, by omega, hjk⟩)) hnk
      · rw [hse, ← hjk]
        exact ltN_ge (hso q j hq hj (by omega))
end Go.Proofs.YtmajjidkkpkhcaaGreat
