/- Written by a program of ours (gen.py) out of short specifications. By an AI agent. -/
import Derived.Test.YtddhlkfpdjmplaaGreatDoorPolyz
set_option linter.unusedVariables false
set_option linter.unusedSimpArgs false
set_option maxRecDepth 4000
namespace Go.Proofs.YtddhlkfpdjmplaaGreatDoor
open Go Go.Proofs Go.Fx
attribute [local irreducible] Oper.wp Code.wp wpList Fx.Head wpOp
def polK : List Rat → Nat → List Tm
  | [], _ => []
  | x :: l, k => ⟨k / 13, k % 13, x⟩ :: polK l (k + 1)
def pol (X : List Rat) : List Tm := polK X 0
theorem polK_len : ∀ (X : List Rat) (k : Nat), (polK X k).length = X.length
  | [], _ => rfl
  | x :: l, k => by rw [polK, List.length_cons, List.length_cons, polK_len l (k + 1)]
theorem pol_len (X : List Rat) : (pol X).length = X.length := polK_len X 0
theorem polK_get : ∀ (X : List Rat) (k m : Nat), m < X.length → (polK X k).getD m T0 = ⟨(k + m) / 13, (k + m) % 13, X.getD m 0⟩
  | [], _, _, h => absurd h (Nat.not_lt_zero _)
  | x :: l, k, 0, _ => rfl
  | x :: l, k, m + 1, h => by
    rw [polK, List.getD_cons_succ, polK_get l (k + 1) m (by simpa using h), List.getD_cons_succ, show k + 1 + m = k + (m + 1) by omega]
theorem pol_get {X : List Rat} {m : Nat} (h : m < X.length) : (pol X).getD m T0 = ⟨m / 13, m % 13, X.getD m 0⟩ := by
  unfold pol; rw [polK_get X 0 m h, Nat.zero_add]
theorem lin_polK_set (φ : Nat → Nat → Rat) (y : Rat) : ∀ (X : List Rat) (k m : Nat), m < X.length → lin φ (polK (X.set m y) k) = lin φ (polK X k) + (y - X.getD m 0) * φ ((k + m) / 13) ((k + m) % 13)
  | [], _, _, h => absurd h (Nat.not_lt_zero _)
  | x :: l, k, 0, _ => by simp only [List.set_cons_zero, polK, lin, List.getD_cons_zero, Nat.add_zero]; grind
  | x :: l, k, m + 1, h => by
    have ih := lin_polK_set φ y l (k + 1) m (by simpa using h)
    rw [show k + 1 + m = k + (m + 1) by omega] at ih
    simp only [List.set_cons_succ, polK, lin, List.getD_cons_succ]; rw [ih]; grind
theorem lin_pol_set (φ : Nat → Nat → Rat) (y : Rat) {X : List Rat} {m : Nat} (h : m < X.length) : lin φ (pol (X.set m y)) = lin φ (pol X) + (y - X.getD m 0) * φ (m / 13) (m % 13) := by
  have := lin_polK_set φ y X 0 m h
  rw [Nat.zero_add] at this; exact this
theorem lin_polK_zero (φ : Nat → Nat → Rat) : ∀ n k : Nat, lin φ (polK (List.replicate n 0) k) = 0
  | 0, _ => rfl
  | n + 1, k => by rw [List.replicate_succ, polK, lin, lin_polK_zero φ n (k + 1)]; grind
theorem lin_pol_zero (φ : Nat → Nat → Rat) (n : Nat) : lin φ (pol (List.replicate n 0)) = 0 := lin_polK_zero φ n 0
theorem lin_polK_at {i j : Nat} (hj : j < 13) : ∀ (X : List Rat) (k : Nat), lin (at0 i j) (polK X k) = if k ≤ 13 * i + j then X.getD (13 * i + j - k) 0 else 0
  | [], k => by simp [polK, lin]
  | x :: l, k => by
    have ha : at0 i j (k / 13) (k % 13) = if k = 13 * i + j then 1 else 0 := by
      unfold at0
      by_cases h : k = 13 * i + j
      · rw [if_pos (by omega), if_pos h]
      · rw [if_neg (by omega), if_neg h]
    rw [polK, lin, lin_polK_at hj l (k + 1)]
    dsimp only
    rw [ha]
    by_cases h : k = 13 * i + j
    · rw [if_pos h, if_neg (by omega), if_pos (by omega), show 13 * i + j - k = 0 by omega, List.getD_cons_zero]; grind
    · rw [if_neg h]
      by_cases h2 : k ≤ 13 * i + j
      · rw [if_pos (by omega), if_pos h2, show 13 * i + j - k = (13 * i + j - (k + 1)) + 1 by omega, List.getD_cons_succ]; grind
      · rw [if_neg (by omega), if_neg h2]; grind
theorem pol_at {X : List Rat} {i j : Nat} (hj : j < 13) : lin (at0 i j) (pol X) = X.getD (13 * i + j) 0 := by
  unfold pol; rw [lin_polK_at hj X 0, if_pos (Nat.zero_le _), Nat.sub_zero]
theorem pol_at' {X : List Rat} {p : List Tm} (h : Eqv (pol X) p) (k : Nat) : X.getD k 0 = lin (at0 (k / 13) (k % 13)) p := by
  rw [← h, pol_at (Nat.mod_lt _ (by decide))]; congr 1; omega
theorem pol_mem {X : List Rat} {t : Tm} (h : t ∈ pol X) : ∃ k, k < X.length ∧ t = ⟨k / 13, k % 13, X.getD k 0⟩ := by
  obtain ⟨k, hk, e⟩ := List.mem_iff_getElem.1 h
  rw [pol_len] at hk
  refine ⟨k, hk, ?_⟩
  rw [← pol_get hk, ← e]
  simp [List.getD, show k < (pol X).length by rw [pol_len]; exact hk]
theorem Hb.sub {K : Nat} {l m : List Tm} (h : Hb K l) (h1 : ∀ t ∈ m, t ∈ l) (h2 : sab m ≤ sab l) : Hb K m := by
  obtain ⟨D, N, a, b, c, d, e⟩ := h
  refine ⟨D, N, a, b, c, fun t ht => d t (h1 t ht), ?_⟩
  have := mul_le_mulr h2 (cast_nonneg D)
  grind
theorem ID_lin {D a b : Nat} : ∀ {p : List Tm}, (∀ t ∈ p, ID D t.c) → ID D (lin (at0 a b) p)
  | [], _ => ID.zero D
  | t :: p, h => by
    rw [lin]
    refine ID.add ?_ (ID_lin (fun s hs => h s (List.mem_cons_of_mem _ hs)))
    unfold at0
    split
    · rw [Rat.mul_one]; exact h t List.mem_cons_self
    · rw [Rat.mul_zero]; exact ID.zero D
theorem lin_le_sab {φ : Nat → Nat → Rat} (h : ∀ i j, φ i j = 1 ∨ φ i j = -1) : ∀ p : List Tm, lin φ p ≤ sab p
  | [] => by simp only [lin, sab]; grind
  | t :: p => by
    have ih := lin_le_sab h p
    have h1 : t.c * φ t.i t.j ≤ ab t.c := by
      rcases h t.i t.j with e | e <;> rw [e] <;> unfold ab <;> split <;> grind
    simp only [lin, sab]; grind
theorem sab_polK (φ : Nat → Nat → Rat) : ∀ (l : List Rat) (k : Nat), (∀ m, m < l.length → φ ((k + m) / 13) ((k + m) % 13) = if l.getD m 0 < 0 then -1 else 1) → sab (polK l k) = lin φ (polK l k)
  | [], _, _ => rfl
  | x :: l, k, h => by
    have ih := sab_polK φ l (k + 1) (fun m hm => by
      have := h (m + 1) (by simpa using hm)
      rwa [show k + (m + 1) = k + 1 + m by omega, List.getD_cons_succ] at this)
    have h0 := h 0 (by simp)
    rw [Nat.add_zero, List.getD_cons_zero] at h0
    simp only [polK, sab, lin, ih, h0]
    unfold ab
    split <;> grind
theorem sab_pol_le {X : List Rat} {p : List Tm} (h : Eqv (pol X) p) : sab (pol X) ≤ sab p := by
  have e := sab_polK (fun i j => if X.getD (13 * i + j) 0 < 0 then -1 else 1) X 0 (fun m hm => by
    rw [Nat.zero_add]
    have : 13 * (m / 13) + m % 13 = m := by omega
    simp only [this])
  have e2 : sab (pol X) = lin (fun i j => if X.getD (13 * i + j) 0 < 0 then -1 else 1) p := by rw [← h]; exact e
  rw [e2]
  exact lin_le_sab (fun i j => by split <;> simp) p
theorem Hb.of_eqv {K : Nat} {X : List Rat} {p : List Tm} (h : Hb K p) (he : Eqv (pol X) p) : Hb K (pol X) := by
  obtain ⟨D, N, a, b, c, d, e⟩ := h
  refine ⟨D, N, a, b, c, fun t ht => ?_, ?_⟩
  · obtain ⟨k, hk, rfl⟩ := pol_mem ht
    show ID D (X.getD k 0)
    rw [pol_at' he k]; exact ID_lin d
  · have := mul_le_mulr (sab_pol_le he) (cast_nonneg D)
    grind
structure Tb (d K : Nat) (X : List Rat) : Prop where
  len : X.length = 169
  deg : ∀ k, k < 169 → X.getD k 0 ≠ 0 → k / 13 + k % 13 ≤ d
  hgt : Hb K (pol X)
theorem Tb.siz {d K : Nat} {X : List Rat} (h : Tb d K X) {k : Nat} (hk : k < 169) : lenQ (X.getD k 0) ≤ K := by
  have h1 := h.hgt.siz _ (getD_mem (pol X) (d := T0) (show k < (pol X).length by rw [pol_len, h.len]; exact hk))
  rwa [pol_get (by rw [h.len]; exact hk)] at h1
theorem Tb.of_eqv {d K : Nat} {X : List Rat} {p : List Tm} (hl : X.length = 169) (he : Eqv (pol X) p) (hd : DL d p) (hh : Hb K p) : Tb d K X := by
  refine ⟨hl, fun k hk hne => ?_, hh.of_eqv he⟩
  rw [pol_at' he k] at hne
  obtain ⟨u, hu, e1, e2⟩ := coef_mem hne
  have := DL_norm hd u hu
  omega
theorem Tb.mono {d K d' K' : Nat} {X : List Rat} (h : Tb d K X) (hd : d ≤ d') (hk : K ≤ K') : Tb d' K' X := ⟨h.len, fun k hk hne => Nat.le_trans (h.deg k hk hne) hd, h.hgt.mono hk⟩
theorem Tb.zero (d : Nat) : Tb d 1 (List.replicate 169 0) := Tb.of_eqv (p := []) (by simp) (fun φ => by rw [lin_pol_zero, lin_nil]) (fun _ h => nomatch h) Hb.nil
def qM (A B : List Rat) (k m : Nat) : List Tm := mulL ((pol A).take k) (pol B) ++ ((pol B).take m).map (mulS ((pol A).getD k T0))
theorem sab_take (l : List Tm) : ∀ n, sab (l.take n) ≤ sab l := by
  induction l with
  | nil => intro n; rw [List.take_nil]; grind
  | cons t l ih =>
    intro n
    cases n with
    | zero => rw [List.take_zero]; have := sab_nonneg (t :: l); simp only [sab] at *; grind
    | succ n => rw [List.take_succ_cons, sab, sab]; have := ih n; grind
theorem qM_Hb {Ka Kb : Nat} {A B : List Rat} (ha : Hb Ka (pol A)) (hb : Hb Kb (pol B)) {k m : Nat} (hk : k < A.length) : Hb (Ka + Kb) (qM A B k m) := by
  refine (ha.mul hb).sub (fun t ht => ?_) ?_
  · unfold qM mulL at *
    have hmem := getD_mem (pol A) (d := T0) (show k < (pol A).length by rw [pol_len]; exact hk)
    rcases List.mem_append.1 ht with h | h
    · obtain ⟨s, hs, h⟩ := List.mem_flatMap.1 h
      exact List.mem_flatMap.2 ⟨s, List.mem_of_mem_take hs, h⟩
    · obtain ⟨s, hs, rfl⟩ := List.mem_map.1 h
      exact List.mem_flatMap.2 ⟨_, hmem, List.mem_map.2 ⟨s, List.mem_of_mem_take hs, rfl⟩⟩
  · unfold qM
    have e1 := sab_map_mul ((pol A).getD k T0) ((pol B).take m)
    have e2 := sab_take (pol B) m
    have e3 := sab_take (pol A) (k + 1)
    have e4 : sab ((pol A).take (k + 1)) = sab ((pol A).take k) + ab ((pol A).getD k T0).c := by
      rw [take_snoc (pol A) (show k < (pol A).length by rw [pol_len]; exact hk), sab_append]; simp only [sab]; grind
    have e5 := mul_le_mulr e2 (ab_nonneg ((pol A).getD k T0).c)
    have e6 := mul_le_mulr e3 (sab_nonneg (pol B))
    have e7 : sab (((pol B).take m).map (mulS ((pol A).getD k T0))) = ab ((pol A).getD k T0).c * sab ((pol B).take m) := e1
    rw [sab_append, sab_mul, sab_mul, e7]
    rw [e4] at e6
    grind
theorem qM_step {A B X : List Rat} {k m i j : Nat} (hA : A.length = 169) (hB : B.length = 169) (hX : X.length = 169) (hk : k < 169) (hm : m < 169) (hi : i = k / 13 + m / 13) (hj : j = k % 13 + m % 13) (hij : i + j ≤ 12) (h : Eqv (pol X) (qM A B k m)) :
    Eqv (pol (X.set (13 * i + j) (X.getD (13 * i + j) 0 + A.getD k 0 * B.getD m 0))) (qM A B k (m + 1)) := fun φ => by
  rw [lin_pol_set φ _ (by omega), h φ]
  have e : qM A B k (m + 1) = qM A B k m ++ [mulS ((pol A).getD k T0) ((pol B).getD m T0)] := by
    unfold qM; rw [take_snoc (pol B) (show m < (pol B).length by rw [pol_len, hB]; exact hm), List.map_append, List.append_assoc]; rfl
  rw [e, lin_append, pol_get (by rw [hA]; exact hk), pol_get (by rw [hB]; exact hm)]
  rw [show (13 * i + j) / 13 = i by omega, show (13 * i + j) % 13 = j by omega]
  simp only [lin, mulS, ← hi, ← hj]; grind
theorem qM_skip {A B X : List Rat} {k m : Nat} (hA : A.length = 169) (hB : B.length = 169) (hk : k < 169) (hm : m < 169) (hz : A.getD k 0 = 0 ∨ B.getD m 0 = 0) (h : Eqv (pol X) (qM A B k m)) : Eqv (pol X) (qM A B k (m + 1)) := fun φ => by
  rw [h φ]
  have e : qM A B k (m + 1) = qM A B k m ++ [mulS ((pol A).getD k T0) ((pol B).getD m T0)] := by
    unfold qM; rw [take_snoc (pol B) (show m < (pol B).length by rw [pol_len, hB]; exact hm), List.map_append, List.append_assoc]; rfl
  rw [e, lin_append, pol_get (by rw [hA]; exact hk), pol_get (by rw [hB]; exact hm)]
  simp only [lin, mulS]
  rcases hz with hz | hz <;> rw [hz] <;> grind
theorem qM_row {A B X : List Rat} {k : Nat} (hA : A.length = 169) (hB : B.length = 169) (hk : k < 169) (h : Eqv (pol X) (qM A B k 169)) : Eqv (pol X) (qM A B (k + 1) 0) := fun φ => by
  rw [h φ]
  unfold qM
  rw [List.take_zero, List.map_nil, List.append_nil, ← mulL_take (pol A) (pol B) k (by rw [pol_len, hA]; exact hk), List.take_of_length_le (l := pol B) (by rw [pol_len, hB]; exact Nat.le_refl _)]
theorem qM_end {A B X : List Rat} (hA : A.length = 169) (h : Eqv (pol X) (qM A B 169 0)) : Eqv (pol X) (mulL (pol A) (pol B)) := fun φ => by
  rw [h φ]; unfold qM
  rw [List.take_zero, List.map_nil, List.append_nil, List.take_of_length_le (l := pol A) (by rw [pol_len, hA]; exact Nat.le_refl _)]
def addX (A B : List Rat) : Nat → List Rat
  | 0 => List.replicate 169 0
  | k + 1 => (addX A B k).set k (A.getD k 0 + B.getD k 0)
def scX (c : Rat) (A : List Rat) : Nat → List Rat
  | 0 => List.replicate 169 0
  | k + 1 => (scX c A k).set k (c * A.getD k 0)
theorem addX_len (A B : List Rat) : ∀ k, (addX A B k).length = 169
  | 0 => by simp [addX]
  | k + 1 => by rw [addX, List.length_set, addX_len A B k]
theorem scX_len (c : Rat) (A : List Rat) : ∀ k, (scX c A k).length = 169
  | 0 => by simp [scX]
  | k + 1 => by rw [scX, List.length_set, scX_len c A k]
theorem getD_set_ne' {l : List Rat} {i j : Nat} {x : Rat} (h : i ≠ j) : (l.set i x).getD j 0 = l.getD j 0 := by
  simp only [List.getD_eq_getElem?_getD, List.getElem?_set, if_neg h]
theorem addX_hi (A B : List Rat) : ∀ k j, k ≤ j → (addX A B k).getD j 0 = 0
  | 0, j, _ => by
    rw [addX, List.getD_eq_getElem?_getD, List.getElem?_replicate]; split <;> rfl
  | k + 1, j, h => by rw [addX, getD_set_ne' (by omega), addX_hi A B k j (by omega)]
theorem scX_hi (c : Rat) (A : List Rat) : ∀ k j, k ≤ j → (scX c A k).getD j 0 = 0
  | 0, j, _ => by
    rw [scX, List.getD_eq_getElem?_getD, List.getElem?_replicate]; split <;> rfl
  | k + 1, j, h => by rw [scX, getD_set_ne' (by omega), scX_hi c A k j (by omega)]
theorem addX_eqv {A B : List Rat} (hA : A.length = 169) (hB : B.length = 169) : ∀ k, k ≤ 169 → Eqv (pol (addX A B k)) ((pol A).take k ++ (pol B).take k)
  | 0, _ => fun φ => by rw [addX, lin_pol_zero]; rfl
  | k + 1, h => fun φ => by
    have ih := addX_eqv hA hB k (by omega) φ
    rw [addX, lin_pol_set φ _ (by rw [addX_len]; omega), ih, addX_hi A B k k (Nat.le_refl _), take_snoc (pol A) (show k < (pol A).length by rw [pol_len]; omega), take_snoc (pol B) (show k < (pol B).length by rw [pol_len]; omega),
      pol_get (by omega), pol_get (by omega)]
    simp only [lin_append, lin]; grind
theorem scX_eqv {c : Rat} {A : List Rat} (hA : A.length = 169) : ∀ k, k ≤ 169 → Eqv (pol (scX c A k)) (scaleL c ((pol A).take k))
  | 0, _ => fun φ => by rw [scX, lin_pol_zero]; rfl
  | k + 1, h => fun φ => by
    have ih := scX_eqv (c := c) hA k (by omega) φ
    rw [scX, lin_pol_set φ _ (by rw [scX_len]; omega), ih, scX_hi c A k k (Nat.le_refl _), take_snoc (pol A) (show k < (pol A).length by rw [pol_len]; omega), pol_get (by omega)]
    simp only [lin_scaleL, lin_append, lin]; grind
theorem addX_all {A B : List Rat} (hA : A.length = 169) (hB : B.length = 169) : Eqv (pol (addX A B 169)) (pol A ++ pol B) := fun φ => by
  have := addX_eqv hA hB 169 (Nat.le_refl _) φ
  rwa [List.take_of_length_le (by rw [pol_len]; omega), List.take_of_length_le (by rw [pol_len]; omega)] at this
theorem scX_all {c : Rat} {A : List Rat} (hA : A.length = 169) : Eqv (pol (scX c A 169)) (scaleL c (pol A)) := fun φ => by
  have := scX_eqv (c := c) hA 169 (Nat.le_refl _) φ
  rwa [List.take_of_length_le (by rw [pol_len]; omega)] at this
def lineX (a b c : Rat) : List Rat := (((List.replicate 169 (0 : Rat)).set 13 a).set 1 b).set 0 c
theorem lineX_eqv (a b c : Rat) : Eqv (pol (lineX a b c)) (ln a b c) := fun φ => by
  have z : ∀ j, (List.replicate 169 (0 : Rat)).getD j 0 = 0 := fun j => by rw [List.getD_eq_getElem?_getD, List.getElem?_replicate]; split <;> rfl
  unfold lineX
  rw [lin_pol_set φ _ (by simp), lin_pol_set φ _ (by simp), lin_pol_set φ _ (by simp), lin_pol_zero]
  rw [getD_set_ne' (by decide), getD_set_ne' (by decide), getD_set_ne' (by decide), z, z, z]
  simp only [ln, lin]
  show _ = a * φ 1 0 + (b * φ 0 1 + (c * φ 0 0 + 0))
  simp only [show 13 / 13 = 1 from rfl, show 13 % 13 = 0 from rfl, show 1 / 13 = 0 from rfl, show 1 % 13 = 1 from rfl, show 0 / 13 = 0 from rfl, show 0 % 13 = 0 from rfl]; grind
def oneX : List Rat := (List.replicate 169 (0 : Rat)).set 0 ((1 : Int) : Rat)
theorem oneX_eqv : Eqv (pol oneX) [⟨0, 0, 1⟩] := fun φ => by
  have z : (List.replicate 169 (0 : Rat)).getD 0 0 = 0 := rfl
  unfold oneX
  rw [lin_pol_set φ _ (by simp), lin_pol_zero, z]
  simp only [lin, show ((1 : Int) : Rat) = 1 from rfl, show 0 / 13 = 0 from rfl, show 0 % 13 = 0 from rfl]; grind
def noY (l : List Tm) : List Tm := l.map (fun t => ⟨t.i, 0, t.c⟩)
theorem ev_noY (l : List Tm) (x y : Rat) : evP (noY l) x y = evP l x 1 := by
  unfold evP noY
  refine lin_map _ _ _ l (fun t _ => ?_)
  simp only; rw [qone_pow, Rat.pow_zero]
theorem shL_noY (p : List Tm) (a c e g : Rat) : Eqv (shL p a 0 c e 0 g) (noY (shL p a 0 c e 0 g)) := Eqv.of_ev (fun x y => by
  rw [ev_noY, ev_shL, ev_shL]; congr 1 <;> grind)
def sgF (X : List Rat) : Nat → Rat
  | 0 => 0
  | i + 1 => sgF X i + X.getD (13 * i) 0 / (((i + 1 : Nat) : Int) : Rat)
theorem sgF_lin {X : List Rat} {l : List Tm} (h : Eqv (pol X) (noY l)) (hd : DL 12 (noY l)) : sgF X 13 = lin lam (pol X) := by
  have key : ∀ n, sgF X n = lin (fun i j => if i < n then lam i 0 else 0) (noY l) := by
    intro n
    induction n with
    | zero => rw [sgF]; exact (lin_none (fun t _ => by rw [if_neg (Nat.not_lt_zero _)])).symm
    | succ n ih =>
      have e1 : X.getD (13 * n) 0 = lin (at0 n 0) (noY l) := by
        have := pol_at' h (13 * n)
        rwa [show 13 * n / 13 = n by omega, show 13 * n % 13 = 0 by omega] at this
      have e2 : X.getD (13 * n) 0 / (((n + 1 : Nat) : Int) : Rat) = lin (fun i j => lam n 0 * at0 n 0 i j) (noY l) := by
        rw [lin_smul, ← e1]
        unfold lam
        rw [show ((1 : Int) : Rat) = 1 from rfl]
        have := cast_ne n; grind
      rw [sgF, ih, e2, ← lin_add]
      refine lin_congr (fun t ht => ?_)
      unfold noY at ht
      obtain ⟨s, hs, rfl⟩ := List.mem_map.1 ht
      unfold at0
      simp only
      by_cases e : s.i = n
      · rw [if_neg (by omega), if_pos ⟨e, trivial⟩, if_pos (by omega), e]; grind
      · rw [if_neg (show ¬ (s.i = n ∧ True) from fun hc => e hc.1)]
        by_cases e2 : s.i < n
        · rw [if_pos e2, if_pos (by omega)]; grind
        · rw [if_neg e2, if_neg (by omega)]; grind
  rw [key 13, h lam]
  refine lin_congr (fun t ht => ?_)
  have := hd t ht
  rw [if_pos (by omega)]
  unfold noY at ht
  obtain ⟨s, hs, rfl⟩ := List.mem_map.1 ht
  rfl
end Go.Proofs.YtddhlkfpdjmplaaGreatDoor
