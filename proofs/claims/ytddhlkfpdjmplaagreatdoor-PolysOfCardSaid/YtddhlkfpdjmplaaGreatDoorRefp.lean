/- Written by a program of ours (gen.py) out of short specifications. By an AI agent. -/
import Derived.Test.YtddhlkfpdjmplaaGreatDoorPolyz
set_option linter.unusedVariables false
set_option linter.unusedSimpArgs false
set_option maxRecDepth 4000
namespace Go.Proofs.YtddhlkfpdjmplaaGreatDoor
open Go Go.Proofs Go.Fx
attribute [local irreducible] Oper.wp Code.wp wpList Fx.Head wpOp
def polK : List Rat → Nat → List Tm
  | [], _ => []
  | x :: l, k => ⟨k / 13, k % 13, x⟩ :: polK l (k + 1)
def pol (X : List Rat) : List Tm := polK X 0
theorem polK_len : ∀ (X : List Rat) (k : Nat), (polK X k).length = X.length
  | [], _ => rfl
  | x :: l, k => by rw [polK, List.length_cons, List.length_cons, polK_len l (k + 1)]
theorem pol_len (X : List Rat) : (pol X).length = X.length := polK_len X 0
theorem polK_get : ∀ (X : List Rat) (k m : Nat), m < X.length → (polK X k).getD m T0 = ⟨(k + m) / 13, (k + m) % 13, X.getD m 0⟩
  | [], _, _, h => absurd h (Nat.not_lt_zero _)
  | x :: l, k, 0, _ => rfl
  | x :: l, k, m + 1, h => by
    rw [polK, List.getD_cons_succ, polK_get l (k + 1) m (by simpa using h), List.getD_cons_succ, show k + 1 + m = k + (m + 1) by omega]
theorem pol_get {X : List Rat} {m : Nat} (h : m < X.length) : (pol X).getD m T0 = ⟨m / 13, m % 13, X.getD m 0⟩ := by
  unfold pol; rw [polK_get X 0 m h, Nat.zero_add]
theorem lin_polK_set (φ : Nat → Nat → Rat) (y : Rat) : ∀ (X : List Rat) (k m : Nat), m < X.length → lin φ (polK (X.set m y) k) = lin φ (polK X k) + (y - X.getD m 0) * φ ((k + m) / 13) ((k + m) % 13)
  | [], _, _, h => absurd h (Nat.not_lt_zero _)
  | x :: l, k, 0, _ => by simp only [List.set_cons_zero, polK, lin, List.getD_cons_zero, Nat.add_zero]; grind
  | x :: l, k, m + 1, h => by
    have ih := lin_polK_set φ y l (k + 1) m (by simpa using h)
    rw [show k + 1 + m = k + (m + 1) by omega] at ih
    simp only [List.set_cons_succ, polK, lin, List.getD_cons_succ]; rw [ih]; grind
theorem lin_pol_set (φ : Nat → Nat → Rat) (y : Rat) {X : List Rat} {m : Nat} (h : m < X.length) : lin φ (pol (X.set m y)) = lin φ (pol X) + (y - X.getD m 0) * φ (m / 13) (m % 13) := by
  have := lin_polK_set φ y X 0 m h
  rw [Nat.zero_add] at this; exact this
theorem lin_polK_zero (φ : Nat → Nat → Rat) : ∀ n k : Nat, lin φ (polK (List.replicate n 0) k) = 0
  | 0, _ => rfl
  | n + 1, k => by rw [List.replicate_succ, polK, lin, lin_polK_zero φ n (k + 1)]; grind
theorem lin_pol_zero (φ : Nat → Nat → Rat) (n : Nat) : lin φ (pol (List.replicate n 0)) = 0 := lin_polK_zero φ n 0
theorem lin_polK_at {i j : Nat} (hj : j < 13) : ∀ (X : List Rat) (k : Nat), lin (at0 i j) (polK X k) = if k ≤ 13 * i + j then X.getD (13 * i + j - k) 0 else 0
  | [], k => by simp [polK, lin]
  | x :: l, k => by
    have ha : at0 i j (k / 13) (k % 13) = if k = 13 * i + j then 1 else 0 := by
      unfold at0
      by_cases h : k = 13 * i + j
      · rw [if_pos (by omega), if_pos h]
      · rw [if_neg (by omega), if_neg h]
    rw [polK, lin, lin_polK_at hj l (k + 1)]
    dsimp only
    rw [ha]
    by_cases h : k = 13 * i + j
    · rw [if_pos h, if_neg (by omega), if_pos (by omega), show 13 * i + j - k = 0 by omega, List.getD_cons_zero]; grind
    · rw [if_neg h]
      by_cases h2 : k ≤ 13 * i + j
      · rw [if_pos (by omega), if_pos h2, show 13 * i + j - k = (13 * i + j - (k + 1)) + 1 by omega, List.getD_cons_succ]; grind
      · rw [if_neg (by omega), if_neg h2]; grind
theorem pol_at {X : List Rat} {i j : Nat} (hj : j < 13) : lin (at0 i j) (pol X) = X.getD (13 * i + j) 0 := by
  unfold pol; rw [lin_polK_at hj X 0, if_pos (Nat.zero_le _), Nat.sub_zero]
theorem pol_at' {X : List Rat} {p : List Tm} (h : Eqv (pol X) p) (k : Nat) : X.getD k 0 = lin (at0 (k / 13) (k % 13)) p := by
  rw [← h, pol_at (Nat.mod_lt _ (by decide))]; congr 1; omega
theorem pol_mem {X : List Rat} {t : Tm} (h : t ∈ pol X) : ∃ k, k < X.length ∧ t = ⟨k / 13, k % 13, X.getD k 0⟩ := by
  obtain ⟨k, hk, e⟩ := List.mem_iff_getElem.1 h
  rw [pol_len] at hk
  refine ⟨k, hk, ?_⟩
  rw [← pol_get hk, ← e]
  simp [List.getD, show k < (pol X).length by rw [pol_len]; exact hk]
theorem Hb.sub {K : Nat} {l m : List Tm} (h : Hb K l) (h1 : ∀ t ∈ m, t ∈ l) (h2 : sab m ≤ sab l) : Hb K m := by
  obtain ⟨D, N, a, b, c, d, e⟩ := h
  refine ⟨D, N, a, b, c, fun t ht => d t (h1 t ht), ?_⟩
  have := mul_le_mulr h2 (cast_nonneg D)
  grind
theorem ID_lin {D a b : Nat} : ∀ {p : List Tm}, (∀ t ∈ p, ID D t.c) → ID D (lin (at0 a b) p)
  | [], _ => ID.zero D
  | t :: p, h => by
    rw [lin]
    refine ID.add ?_ (ID_lin (fun s hs => h s (List.mem_cons_of_mem _ hs)))
    unfold at0
    split
    · rw [Rat.mul_one]; exact h t List.mem_cons_self
    · rw [Rat.mul_zero]; exact ID.zero D
theorem lin_le_sab {φ : Nat → Nat → Rat} (h : ∀ i j, φ i j = 1 ∨ φ i j = -1) : ∀ p : List Tm, lin φ p ≤ sab p
  | [] => by simp only [lin, sab]; grind
  | t :: p => by
    have ih := lin_le_sab h p
    have h1 : t.c * φ t.i t.j ≤ ab t.c := by
      rcases h t.i t.j with e | e <;> rw [e] <;> unfold ab <;> split <;> grind
    simp only [lin, sab]; grind
theorem sab_polK (φ : Nat → Nat → Rat) : ∀ (l : List Rat) (k : Nat), (∀ m, m < l.length → φ ((k + m) / 13) ((k + m) % 13) = if l.getD m 0 < 0 then -1 else 1) → sab (polK l k) = lin φ (polK l k)
  | [], _, _ => rfl
  | x :: l, k, h => by
    have ih := sab_polK φ l (k + 1) (fun m hm => by
      have := h (m + 1) (by simpa using hm)
      rwa [show k + (m + 1) = k + 1 + m by omega, List.getD_cons_succ] at this)
    have h0 := h 0 (by simp)
    rw [Nat.add_zero, List.getD_cons_zero] at h0
    simp only [polK, sab, lin, ih, h0]
    unfold ab
    split <;> grind
theorem sab_pol_le {X : List Rat} {p : List Tm} (h : Eqv (pol X) p) : sab (pol X) ≤ sab p := by
  have e := sab_polK (fun i j => if X.getD (13 * i + j) 0 < 0 then -1 else 1) X 0 (fun m hm => by
    rw [Nat.zero_add]
    have : 13 * (m / 13) + m % 13 = m := by omega
    simp only [this])
  have e2 : sab (pol X) = lin (fun i j => if X.getD (13 * i + j) 0 < 0 then -1 else 1) p := by rw [← h]; exact e
  rw [e2]
  exact lin_le_sab (fun i j => by split <;> simp) p
theorem Hb.of_eqv {K : Nat} {X : List Rat} {p : List Tm} (h : Hb K p) (he : Eqv (pol X) p) : Hb K (pol X) := by
  obtain ⟨D, N, a, b, c, d, e⟩ := h
  refine ⟨D, N, a, b, c, fun t ht => ?_, ?_⟩
  · obtain ⟨k, hk, rfl⟩ := pol_mem ht
    show ID D (X.getD k 0)
    rw [pol_at' he k]; exact ID_lin d
  · have := mul_le_mulr (sab_pol_le he) (cast_nonneg D)
    grind
structure Tb (d K : Nat) (X : List Rat) : Prop where
  len : X.length = 169
  deg : ∀ k, k < 169 → X.getD k 0 ≠ 0 → k / 13 + k % 13 ≤ d
  hgt : Hb K (pol X)
theorem Tb.siz {d K : Nat} {X : List Rat} (h : Tb d K X) {k : Nat} (hk : k < 169) : lenQ (X.getD k 0) ≤ K := by
  have h1 := h.hgt.siz _ (getD_mem (pol X) (d := T0) (show k < (pol X).length by rw [pol_len, h.len]; exact hk))
  rwa [pol_get (by rw [h.len]; exact hk)] at h1
theorem Tb.of_eqv {d K : Nat} {X : List Rat} {p : List Tm} (hl : X.length = 169) (he : Eqv (pol X) p) (hd : DL d p) (hh : Hb K p) : Tb d K X := by
  refine ⟨hl, fun k hk hne => ?_, hh.of_eqv he⟩
  rw [pol_at' he k] at hne
  obtain ⟨u, hu, e1, e2⟩ := coef_mem hne
  have := DL_norm hd u hu
  omega
theorem Tb.mono {d K d' K' : Nat} {X : List Rat} (h : Tb d K X) (hd : d ≤ d') (hk : K ≤ K') : Tb d' K' X := ⟨h.len, fun k hk hne => Nat.le_trans (h.deg k hk hne) hd, h.hgt.mono hk⟩
theorem Tb.zero (d : Nat) : Tb d 1 (List.replicate 169 0) := Tb.of_eqv (p := []) (by simp) (fun φ => by rw [lin_pol_zero, lin_nil]) (fun _ h => nomatch h) Hb.nil
def qM (A B : List Rat) (k m : Nat) : List Tm := mulL ((pol A).take k) (pol B) ++ ((pol B).take m).map (mulS ((pol A).getD k T0))
def addX (A B : List Rat) : Nat → List Rat
  | 0 => List.replicate 169 0
  | k + 1 => (addX A B k).set k (A.getD k 0 + B.getD k 0)
def scX (c : Rat) (A : List Rat) : Nat → List Rat
  | 0 => List.replicate 169 0
  | k + 1 => (scX c A k).set k (c * A.getD k 0)
def lineX (a b c : Rat) : List Rat := (((List.replicate 169 (0 : Rat)).set 13 a).set 1 b).set 0 c
def oneX : List Rat := (List.replicate 169 (0 : Rat)).set 0 ((1 : Int) : Rat)
def noY (l : List Tm) : List Tm := l.map (fun t => ⟨t.i, 0, t.c⟩)
def sgF (X : List Rat) : Nat → Rat
  | 0 => 0
  | i + 1 => sgF X i + X.getD (13 * i) 0 / (((i + 1 : Nat) : Int) : Rat)
end Go.Proofs.YtddhlkfpdjmplaaGreatDoor
