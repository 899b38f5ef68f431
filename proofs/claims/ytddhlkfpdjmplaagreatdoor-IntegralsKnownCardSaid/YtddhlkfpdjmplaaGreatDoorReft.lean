/- Walks of functions. By an AI agent. -/
import Derived.Test.YtddhlkfpdjmplaaGreatDoorLaw09f
set_option linter.unusedVariables false
set_option linter.unusedSimpArgs false
set_option maxRecDepth 4000
namespace Go.Proofs.YtddhlkfpdjmplaaGreatDoor
open Go Go.Proofs Go.Fx Tryz
attribute [local irreducible] Oper.wp Code.wp wpList Fx.Head wpOp
section
def tmZ (t : Tz) : Tm := ⟨t.i.toNat, t.j.toNat, t.c⟩
def toZ (t : Tm) : Tz := ⟨(t.i : Int), (t.j : Int), t.c⟩
theorem Tz.ext' {s t : Tz} (h1 : s.i = t.i) (h2 : s.j = t.j) (h3 : s.c = t.c) : s = t := by cases s; cases t; simp_all
instance : DecidableEq Tz := fun s t => decidable_of_iff (s.i = t.i ∧ s.j = t.j ∧ s.c = t.c) ⟨fun ⟨a, b, c⟩ => Tz.ext' a b c, fun h => h ▸ ⟨rfl, rfl, rfl⟩⟩
def npZ (Z : List Tz) : List Tm := if Qb9 Z = 0 then norm (Z.map tmZ) else []
def okK (Z : List Tz) (k : Nat) : Bool := decide (mayZ (Z.getD k Tz0) = 0) && !decide ((Z.getD k Tz0).c = 0) && (decide (k = 0) || decide (Zwe (tmZ (Z.getD (k - 1) Tz0)) (tmZ (Z.getD k Tz0)) < 0))
def okB (Z : List Tz) : Bool := decide (∀ k, k < Z.length → okK Z k = true)
end
section
def Zmh : List Rat → Nat → List Tm
 | [], _ => []
 | x :: l, k => ⟨k / 13, k % 13, x⟩ :: Zmh l (k + 1)
def pol (X : List Rat) : List Tm := Zmh X 0
theorem Zre : ∀ (X : List Rat) (k : Nat), (Zmh X k).length = X.length
 | [], _ => rfl
 | x :: l, k => by rw [Zmh, List.length_cons, List.length_cons, Zre l (k + 1)]
theorem Yg (X : List Rat) : (pol X).length = X.length := Zre X 0
theorem Zrf : ∀ (X : List Rat) (k m : Nat), m < X.length → (Zmh X k).getD m T0 = ⟨(k + m) / 13, (k + m) % 13, X.getD m 0⟩
 | [], _, _, h => absurd h (Nat.not_lt_zero _)
 | x :: l, k, 0, _ => rfl
 | x :: l, k, m + 1, h => by
  rw [Zmh, List.getD_cons_succ, Zrf l (k + 1) m (by simpa using h), List.getD_cons_succ, show k + 1 + m = k + (m + 1) by omega]
theorem Gt {X : List Rat} {m : Nat} (h : m < X.length) : (pol X).getD m T0 = ⟨m / 13, m % 13, X.getD m 0⟩ := by
 unfold pol; rw [Zrf X 0 m h, Nat.zero_add]
theorem Zha (φ : Nat → Nat → Rat) (y : Rat) : ∀ (X : List Rat) (k m : Nat), m < X.length → lin φ (Zmh (X.set m y) k) = lin φ (Zmh X k) + (y - X.getD m 0) * φ ((k + m) / 13) ((k + m) % 13)
 | [], _, _, h => absurd h (Nat.not_lt_zero _)
 | x :: l, k, 0, _ => by simp only [List.set_cons_zero, Zmh, lin, List.getD_cons_zero, Nat.add_zero]; grind
 | x :: l, k, m + 1, h => by
  have ih := Zha φ y l (k + 1) m (by simpa using h)
  rw [show k + 1 + m = k + (m + 1) by omega] at ih
  simp only [List.set_cons_succ, Zmh, lin, List.getD_cons_succ]; rw [ih]; grind
theorem Vw (φ : Nat → Nat → Rat) (y : Rat) {X : List Rat} {m : Nat} (h : m < X.length) : lin φ (pol (X.set m y)) = lin φ (pol X) + (y - X.getD m 0) * φ (m / 13) (m % 13) := by
 have := Zha φ y X 0 m h
 rw [Nat.zero_add] at this; exact this
theorem Zfw (φ : Nat → Nat → Rat) : ∀ n k : Nat, lin φ (Zmh (List.replicate n 0) k) = 0
 | 0, _ => rfl
 | n + 1, k => by rw [List.replicate_succ, Zmh, lin, Zfw φ n (k + 1)]; grind
theorem Jx (φ : Nat → Nat → Rat) (n : Nat) : lin φ (pol (List.replicate n 0)) = 0 := Zfw φ n 0
theorem Ziy {i j : Nat} (hj : j < 13) : ∀ (X : List Rat) (k : Nat), lin (at0 i j) (Zmh X k) = if k ≤ 13 * i + j then X.getD (13 * i + j - k) 0 else 0
 | [], k => by simp [Zmh, lin]
 | x :: l, k => by
  have ha : at0 i j (k / 13) (k % 13) = if k = 13 * i + j then 1 else 0 := by
   unfold at0
   by_cases h : k = 13 * i + j
   · rw [if_pos oo, if_pos h]
   · rw [if_neg oo, if_neg h]
  rw [Zmh, lin, Ziy hj l (k + 1)]
  dsimp only
  rw [ha]
  by_cases h : k = 13 * i + j
  · rw [if_pos h, if_neg oo, if_pos oo, show 13 * i + j - k = 0 by omega, List.getD_cons_zero]; grind
  ·
   rw [if_neg h]
   by_cases h2 : k ≤ 13 * i + j
   · rw [if_pos oo, if_pos h2, show 13 * i + j - k = (13 * i + j - (k + 1)) + 1 by omega, List.getD_cons_succ]; grind
   · rw [if_neg oo, if_neg h2]; grind
theorem Zwc {X : List Rat} {i j : Nat} (hj : j < 13) : lin (at0 i j) (pol X) = X.getD (13 * i + j) 0 := by
 unfold pol; rw [Ziy hj X 0, if_pos (Nat.zero_le _), Nat.sub_zero]
theorem Zpa {X : List Rat} {p : List Tm} (h : Eqv (pol X) p) (k : Nat) : X.getD k 0 = lin (at0 (k / 13) (k % 13)) p := by
 rw [← h, Zwc (Nat.mod_lt _ dd)]; congr 1; omega
theorem Zo9 {X : List Rat} {t : Tm} (h : t ∈ pol X) : ∃ k, k < X.length ∧ t = ⟨k / 13, k % 13, X.getD k 0⟩ := by
 obtain ⟨k, hk, e⟩ := List.mem_iff_getElem.1 h
 rw [Yg] at hk
 refine ⟨k, hk, ?_⟩
 rw [← Gt hk, ← e]
 simp [List.getD, show k < (pol X).length by rw [Yg]; exact hk]
theorem Hb.sub {K : Nat} {l m : List Tm} (h : Hb K l) (h1 : ∀ t ∈ m, t ∈ l) (h2 : sab m ≤ sab l) : Hb K m := by
 obtain ⟨D, N, a, b, c, d, e⟩ := h
 refine ⟨D, N, a, b, c, fun t ht => d t (h1 t ht), ?_⟩
 have := Xd h2 (Xg D)
 grind
theorem Qcl {D a b : Nat} : ∀ {p : List Tm}, (∀ t ∈ p, ID D t.c) → ID D (lin (at0 a b) p)
 | [], _ => ID.zero D
 | t :: p, h => by
  rw [lin]
  refine ID.add ?_ (Qcl (fun s hs => h s (List.mem_cons_of_mem _ hs)))
  unfold at0
  split
  · rw [Rat.mul_one]; exact h t List.mem_cons_self
  · rw [Rat.mul_zero]; exact ID.zero D
theorem Zkg {φ : Nat → Nat → Rat} (h : ∀ i j, φ i j = 1 ∨ φ i j = -1) : ∀ p : List Tm, lin φ p ≤ sab p
 | [] => by simp only [lin, sab]; grind
 | t :: p => by
  have ih := Zkg h p
  have h1 : t.c * φ t.i t.j ≤ ab t.c := by
   rcases h t.i t.j with e | e <;> rw [e] <;> unfold ab <;> split <;> grind
  simp only [lin, sab]; grind
theorem Zqy (φ : Nat → Nat → Rat) : ∀ (l : List Rat) (k : Nat), (∀ m, m < l.length → φ ((k + m) / 13) ((k + m) % 13) = if l.getD m 0 < 0 then -1 else 1) → sab (Zmh l k) = lin φ (Zmh l k)
 | [], _, _ => rfl
 | x :: l, k, h => by
  have ih := Zqy φ l (k + 1) (fun m hm => by
   have := h (m + 1) (by simpa using hm)
   rwa [show k + (m + 1) = k + 1 + m by omega, List.getD_cons_succ] at this)
  have h0 := h 0 ss
  rw [Nat.add_zero, List.getD_cons_zero] at h0
  simp only [Zmh, sab, lin, ih, h0]
  unfold ab
  split <;> grind
theorem Ztt {X : List Rat} {p : List Tm} (h : Eqv (pol X) p) : sab (pol X) ≤ sab p := by
 have e := Zqy (fun i j => if X.getD (13 * i + j) 0 < 0 then -1 else 1) X 0 (fun m hm => by
  rw [Nat.zero_add]
  have : 13 * (m / 13) + m % 13 = m := oo
  simp only [this])
 have e2 : sab (pol X) = lin (fun i j => if X.getD (13 * i + j) 0 < 0 then -1 else 1) p := by rw [← h]; exact e
 rw [e2]
 exact Zkg (fun i j => by split <;> simp) p
theorem Hb.of_eqv {K : Nat} {X : List Rat} {p : List Tm} (h : Hb K p) (he : Eqv (pol X) p) : Hb K (pol X) := by
 obtain ⟨D, N, a, b, c, d, e⟩ := h
 refine ⟨D, N, a, b, c, fun t ht => ?_, ?_⟩
 ·
  obtain ⟨k, hk, rfl⟩ := Zo9 ht
  show ID D (X.getD k 0)
  rw [Zpa he k]; exact Qcl d
 ·
  have := Xd (Ztt he) (Xg D)
  grind
structure Tb (d K : Nat) (X : List Rat) : Prop where
 len : X.length = 169
 deg : ∀ k, k < 169 → X.getD k 0 ≠ 0 → k / 13 + k % 13 ≤ d
 hgt : Hb K (pol X)
theorem Tb.siz {d K : Nat} {X : List Rat} (h : Tb d K X) {k : Nat} (hk : k < 169) : Qa (X.getD k 0) ≤ K := by
 have h1 := h.hgt.siz _ (getD_mem (pol X) (d := T0) (show k < (pol X).length by rw [Yg, h.len]; exact hk))
 rwa [Gt (by rw [h.len]; exact hk)] at h1
theorem Tb.of_eqv {d K : Nat} {X : List Rat} {p : List Tm} (hl : X.length = 169) (he : Eqv (pol X) p) (hd : DL d p) (hh : Hb K p) : Tb d K X := by
 refine ⟨hl, fun k hk hne => ?_, hh.of_eqv he⟩
 rw [Zpa he k] at hne
 obtain ⟨u, hu, e1, e2⟩ := Qbe hne
 have := Jr hd u hu
 omega
theorem Tb.mono {d K d' K' : Nat} {X : List Rat} (h : Tb d K X) (hd : d ≤ d') (hk : K ≤ K') : Tb d' K' X := ⟨h.len, fun k hk hne => Nat.le_trans (h.deg k hk hne) hd, h.hgt.mono hk⟩
theorem Tb.zero (d : Nat) : Tb d 1 (List.replicate 169 0) := Tb.of_eqv (p := []) ss (fun φ => by rw [Jx, Zlc]) (fun _ h => nomatch h) Hb.nil
def qM (A B : List Rat) (k m : Nat) : List Tm := Xv ((pol A).take k) (pol B) ++ ((pol B).take m).map (mulS ((pol A).getD k T0))
theorem Zqx (l : List Tm) : ∀ n, sab (l.take n) ≤ sab l := by
 induction l with
 | nil => intro n; rw [List.take_nil]; grind
 | cons t l ih =>
  intro n
  cases n with
  | zero => rw [List.take_zero]; have := Zaz (t :: l); simp only [sab] at *; grind
  | succ n => rw [List.take_succ_cons, sab, sab]; have := ih n; grind
theorem qM_Hb {Ka Kb : Nat} {A B : List Rat} (ha : Hb Ka (pol A)) (hb : Hb Kb (pol B)) {k m : Nat} (hk : k < A.length) : Hb (Ka + Kb) (qM A B k m) := by
 refine (ha.mul hb).sub (fun t ht => ?_) ?_
 ·
  unfold qM Xv at *
  have hmem := getD_mem (pol A) (d := T0) (show k < (pol A).length by rw [Yg]; exact hk)
  rcases List.mem_append.1 ht with h | h
  ·
   obtain ⟨s, hs, h⟩ := List.mem_flatMap.1 h
   exact List.mem_flatMap.2 ⟨s, List.mem_of_mem_take hs, h⟩
  ·
   obtain ⟨s, hs, rfl⟩ := List.mem_map.1 h
   exact List.mem_flatMap.2 ⟨_, hmem, List.mem_map.2 ⟨s, List.mem_of_mem_take hs, rfl⟩⟩
 ·
  unfold qM
  have e1 := Ze1 ((pol A).getD k T0) ((pol B).take m)
  have e2 := Zqx (pol B) m
  have e3 := Zqx (pol A) (k + 1)
  have e4 : sab ((pol A).take (k + 1)) = sab ((pol A).take k) + ab ((pol A).getD k T0).c := by
   rw [take_snoc (pol A) (show k < (pol A).length by rw [Yg]; exact hk), Zcg]; simp only [sab]; grind
  have e5 := Xd e2 (Zcp ((pol A).getD k T0).c)
  have e6 := Xd e3 (Zaz (pol B))
  have e7 : sab (((pol B).take m).map (mulS ((pol A).getD k T0))) = ab ((pol A).getD k T0).c * sab ((pol B).take m) := e1
  rw [Zcg, Zkz, Zkz, e7]
  rw [e4] at e6
  grind
theorem Qds {A B X : List Rat} {k m i j : Nat} (hA : A.length = 169) (hB : B.length = 169) (hX : X.length = 169) (hk : k < 169) (hm : m < 169) (hi : i = k / 13 + m / 13) (hj : j = k % 13 + m % 13) (hij : i + j ≤ 12) (h : Eqv (pol X) (qM A B k m)) :
  Eqv (pol (X.set (13 * i + j) (X.getD (13 * i + j) 0 + A.getD k 0 * B.getD m 0))) (qM A B k (m + 1)) := fun φ => by
 rw [Vw φ _ oo, h φ]
 have e : qM A B k (m + 1) = qM A B k m ++ [mulS ((pol A).getD k T0) ((pol B).getD m T0)] := by
  unfold qM; rw [take_snoc (pol B) (show m < (pol B).length by rw [Yg, hB]; exact hm), List.map_append, List.append_assoc]; rfl
 rw [e, Jb, Gt (by rw [hA]; exact hk), Gt (by rw [hB]; exact hm)]
 rw [show (13 * i + j) / 13 = i by omega, show (13 * i + j) % 13 = j by omega]
 simp only [lin, mulS, ← hi, ← hj]; grind
theorem Zv3 {A B X : List Rat} {k m : Nat} (hA : A.length = 169) (hB : B.length = 169) (hk : k < 169) (hm : m < 169) (hz : A.getD k 0 = 0 ∨ B.getD m 0 = 0) (h : Eqv (pol X) (qM A B k m)) : Eqv (pol X) (qM A B k (m + 1)) := fun φ => by
 rw [h φ]
 have e : qM A B k (m + 1) = qM A B k m ++ [mulS ((pol A).getD k T0) ((pol B).getD m T0)] := by
  unfold qM; rw [take_snoc (pol B) (show m < (pol B).length by rw [Yg, hB]; exact hm), List.map_append, List.append_assoc]; rfl
 rw [e, Jb, Gt (by rw [hA]; exact hk), Gt (by rw [hB]; exact hm)]
 simp only [lin, mulS]
 rcases hz with hz | hz <;> rw [hz] <;> grind
theorem qM_row {A B X : List Rat} {k : Nat} (hA : A.length = 169) (hB : B.length = 169) (hk : k < 169) (h : Eqv (pol X) (qM A B k 169)) : Eqv (pol X) (qM A B (k + 1) 0) := fun φ => by
 rw [h φ]
 unfold qM
 rw [List.take_zero, List.map_nil, List.append_nil, ← Zm5 (pol A) (pol B) k (by rw [Yg, hA]; exact hk), List.take_of_length_le (l := pol B) (by rw [Yg, hB]; exact Nat.le_refl _)]
theorem qM_end {A B X : List Rat} (hA : A.length = 169) (h : Eqv (pol X) (qM A B 169 0)) : Eqv (pol X) (Xv (pol A) (pol B)) := fun φ => by
 rw [h φ]; unfold qM
 rw [List.take_zero, List.map_nil, List.append_nil, List.take_of_length_le (l := pol A) (by rw [Yg, hA]; exact Nat.le_refl _)]
def Zs6 (A B : List Rat) : Nat → List Rat
 | 0 => List.replicate 169 0
 | k + 1 => (Zs6 A B k).set k (A.getD k 0 + B.getD k 0)
def scX (c : Rat) (A : List Rat) : Nat → List Rat
 | 0 => List.replicate 169 0
 | k + 1 => (scX c A k).set k (c * A.getD k 0)
theorem Zl6 (A B : List Rat) : ∀ k, (Zs6 A B k).length = 169
 | 0 => by simp [Zs6]
 | k + 1 => by rw [Zs6, List.length_set, Zl6 A B k]
theorem Zo5 (c : Rat) (A : List Rat) : ∀ k, (scX c A k).length = 169
 | 0 => by simp [scX]
 | k + 1 => by rw [scX, List.length_set, Zo5 c A k]
theorem Zaj {l : List Rat} {i j : Nat} {x : Rat} (h : i ≠ j) : (l.set i x).getD j 0 = l.getD j 0 := by
 simp only [List.getD_eq_getElem?_getD, List.getElem?_set, if_neg h]
theorem Zyd (A B : List Rat) : ∀ k j, k ≤ j → (Zs6 A B k).getD j 0 = 0
 | 0, j, _ => by
  rw [Zs6, List.getD_eq_getElem?_getD, List.getElem?_replicate]; split <;> rfl
 | k + 1, j, h => by rw [Zs6, Zaj oo, Zyd A B k j oo]
theorem Qb0 (c : Rat) (A : List Rat) : ∀ k j, k ≤ j → (scX c A k).getD j 0 = 0
 | 0, j, _ => by
  rw [scX, List.getD_eq_getElem?_getD, List.getElem?_replicate]; split <;> rfl
 | k + 1, j, h => by rw [scX, Zaj oo, Qb0 c A k j oo]
theorem Zs4 {A B : List Rat} (hA : A.length = 169) (hB : B.length = 169) : ∀ k, k ≤ 169 → Eqv (pol (Zs6 A B k)) ((pol A).take k ++ (pol B).take k)
 | 0, _ => fun φ => by rw [Zs6, Jx]; rfl
 | k + 1, h => fun φ => by
  have ih := Zs4 hA hB k oo φ
  rw [Zs6, Vw φ _ (by rw [Zl6]; omega), ih, Zyd A B k k (Nat.le_refl _), take_snoc (pol A) (show k < (pol A).length by rw [Yg]; omega), take_snoc (pol B) (show k < (pol B).length by rw [Yg]; omega),
   Gt oo, Gt oo]
  simp only [Jb, lin]; grind
theorem Zvt {c : Rat} {A : List Rat} (hA : A.length = 169) : ∀ k, k ≤ 169 → Eqv (pol (scX c A k)) (Qw c ((pol A).take k))
 | 0, _ => fun φ => by rw [scX, Jx]; rfl
 | k + 1, h => fun φ => by
  have ih := Zvt (c := c) hA k oo φ
  rw [scX, Vw φ _ (by rw [Zo5]; omega), ih, Qb0 c A k k (Nat.le_refl _), take_snoc (pol A) (show k < (pol A).length by rw [Yg]; omega), Gt oo]
  simp only [Xh, Jb, lin]; grind
theorem Zs5 {A B : List Rat} (hA : A.length = 169) (hB : B.length = 169) : Eqv (pol (Zs6 A B 169)) (pol A ++ pol B) := fun φ => by
 have := Zs4 hA hB 169 (Nat.le_refl _) φ
 rwa [List.take_of_length_le (by rw [Yg]; omega), List.take_of_length_le (by rw [Yg]; omega)] at this
theorem Zvu {c : Rat} {A : List Rat} (hA : A.length = 169) : Eqv (pol (scX c A 169)) (Qw c (pol A)) := fun φ => by
 have := Zvt (c := c) hA 169 (Nat.le_refl _) φ
 rwa [List.take_of_length_le (by rw [Yg]; omega)] at this
def Zt5 (a b c : Rat) : List Rat := (((List.replicate 169 (0 : Rat)).set 13 a).set 1 b).set 0 c
theorem Zna (a b c : Rat) : Eqv (pol (Zt5 a b c)) (ln a b c) := fun φ => by
 have z : ∀ j, (List.replicate 169 (0 : Rat)).getD j 0 = 0 := fun j => by rw [List.getD_eq_getElem?_getD, List.getElem?_replicate]; split <;> rfl
 unfold Zt5
 rw [Vw φ _ ss, Vw φ _ ss, Vw φ _ ss, Jx]
 rw [Zaj dd, Zaj dd, Zaj dd, z, z, z]
 simp only [ln, lin]
 show _ = a * φ 1 0 + (b * φ 0 1 + (c * φ 0 0 + 0))
 simp only [show 13 / 13 = 1 from rfl, show 13 % 13 = 0 from rfl, show 1 / 13 = 0 from rfl, show 1 % 13 = 1 from rfl, show 0 / 13 = 0 from rfl, show 0 % 13 = 0 from rfl]; grind
def oneX : List Rat := (List.replicate 169 (0 : Rat)).set 0 ((1 : Int) : Rat)
theorem Zrk : Eqv (pol oneX) [⟨0, 0, 1⟩] := fun φ => by
 have z : (List.replicate 169 (0 : Rat)).getD 0 0 = 0 := rfl
 unfold oneX
 rw [Vw φ _ ss, Jx, z]
 simp only [lin, show ((1 : Int) : Rat) = 1 from rfl, show 0 / 13 = 0 from rfl, show 0 % 13 = 0 from rfl]; grind
def noY (l : List Tm) : List Tm := l.map (fun t => ⟨t.i, 0, t.c⟩)
theorem ev_noY (l : List Tm) (x y : Rat) : evP (noY l) x y = evP l x 1 := by
 unfold evP noY
 refine Ze6 _ _ _ l (fun t _ => ?_)
 simp only; rw [Zfn, Rat.pow_zero]
theorem Qdc (p : List Tm) (a c e g : Rat) : Eqv (shL p a 0 c e 0 g) (noY (shL p a 0 c e 0 g)) := Eqv.of_ev (fun x y => by
 rw [ev_noY, Zbh, Zbh]; congr 1 <;> grind)
def sgF (X : List Rat) : Nat → Rat
 | 0 => 0
 | i + 1 => sgF X i + X.getD (13 * i) 0 / (((i + 1 : Nat) : Int) : Rat)
theorem Qde {X : List Rat} {l : List Tm} (h : Eqv (pol X) (noY l)) (hd : DL 12 (noY l)) : sgF X 13 = lin lam (pol X) := by
 have key : ∀ n, sgF X n = lin (fun i j => if i < n then lam i 0 else 0) (noY l) := by
  intro n
  induction n with
  | zero => rw [sgF]; exact (Zrz (fun t _ => by rw [if_neg (Nat.not_lt_zero _)])).symm
  | succ n ih =>
   have e1 : X.getD (13 * n) 0 = lin (at0 n 0) (noY l) := by
    have := Zpa h (13 * n)
    rwa [show 13 * n / 13 = n by omega, show 13 * n % 13 = 0 by omega] at this
   have e2 : X.getD (13 * n) 0 / (((n + 1 : Nat) : Int) : Rat) = lin (fun i j => lam n 0 * at0 n 0 i j) (noY l) := by
    rw [Zbw, ← e1]
    unfold lam
    rw [show ((1 : Int) : Rat) = 1 from rfl]
    have := Gu n; grind
   rw [sgF, ih, e2, ← Zc6]
   refine Jo (fun t ht => ?_)
   unfold noY at ht
   obtain ⟨s, hs, rfl⟩ := List.mem_map.1 ht
   unfold at0
   simp only
   by_cases e : s.i = n
   · rw [if_neg oo, if_pos ⟨e, trivial⟩, if_pos oo, e]; grind
   ·
    rw [if_neg (show ¬ (s.i = n ∧ True) from fun hc => e hc.1)]
    by_cases e2 : s.i < n
    · rw [if_pos e2, if_pos oo]; grind
    · rw [if_neg e2, if_neg oo]; grind
 rw [key 13, h lam]
 refine Jo (fun t ht => ?_)
 have := hd t ht
 rw [if_pos oo]
 unfold noY at ht
 obtain ⟨s, hs, rfl⟩ := List.mem_map.1 ht
 rfl
end
section
theorem Zbp (b off n c j : Nat) (h : j < n) (w : World) : (Instr.indexAt 31 (.slice (some ⟨b, off, none⟩) n c) (.int .i64 (j : Int))).run Tryz.prog w = .ok (.pointer (some ⟨b, off + j * 3, none⟩)) w := by
 simpa using Xe runUnderlying31 sizeOf56 b off n c j h w
theorem Zle (a : Option Addr) (n c : Nat) (w : World) (ty : TypeId) (cs : Array Bool) : (Go.builtin .len #[102] ty cs #[.slice a n c]).run Tryz.prog w = .ok (.value (.int .i64 n)) w := by
 simp [go_sem]
theorem Zf1 (b off n c j : Nat) (h : j < n) (w : World) : (Instr.indexAt 102 (.slice (some ⟨b, off, none⟩) n c) (.int .i64 (j : Int))).run Tryz.prog w = .ok (.pointer (some ⟨b, off + j * 5, none⟩)) w := by
 simpa using Xe runUnderlying102 sizeOf105 b off n c j h w
theorem Zh9 {b off : Nat} (w : World) : (Instr.fieldAt 105 (.pointer (some ⟨b, off, none⟩)) 0).run Tryz.prog w = .ok (.pointer (some ⟨b, off + 0, none⟩)) w := by
 simp [go_sem]
theorem Zh8 {b off : Nat} (w : World) : (Instr.fieldAt 105 (.pointer (some ⟨b, off, none⟩)) 1).run Tryz.prog w = .ok (.pointer (some ⟨b, off + 1, none⟩)) w := by
 simp [go_sem]
theorem Qay {b off : Nat} (w : World) : (Instr.fieldAt 105 (.pointer (some ⟨b, off, none⟩)) 2).run Tryz.prog w = .ok (.pointer (some ⟨b, off + 2, none⟩)) w := by
 simp [go_sem]
abbrev xs (l : List FT) : List Rat := l.map FT.x
theorem Zid (l : List FT) : (xs l).length = l.length := List.length_map _
theorem Kj (l : List FT) (k : Nat) : (l.getD k FT0).x = (xs l).getD k 0 := by
 simp only [xs, List.getD_eq_getElem?_getD, List.getElem?_map]
 cases l[k]? <;> rfl
theorem Zg3 (l : List FT) (k : Nat) (e : FT) : xs (l.set k e) = (xs l).set k e.x := List.map_set
theorem Gp : xs (List.replicate 169 FT0) = List.replicate 169 0 := by
 simp only [xs, List.map_replicate]; rfl
theorem AllF.set {l : List FT} {e : FT} {k : Nat} {X : Nat → Prop} {w : World} (h : (AllF l).p X w) (h1 : (Row e.a1 (List.map Zo (dg e.x.num.natAbs))).p X w) (h2 : (Row e.a2 (List.map Zo (dg (e.x.den - 1)))).p X w) : (AllF (l.set k e)).p X w := by
 intro f hf
 rcases List.mem_or_eq_of_mem_set hf with hf | rfl
 · exact h f hf
 · exact ⟨h1, h2⟩
theorem AllF.zeros (n : Nat) (X : Nat → Prop) (w : World) : (AllF (List.replicate n FT0)).p X w := by
 intro f hf
 rw [(List.mem_replicate.1 hf).2]
 have e1 : List.map Zo (dg FT0.x.num.natAbs) = [] := by rw [show FT0.x.num.natAbs = 0 from rfl, Jk]; rfl
 have e2 : List.map Zo (dg (FT0.x.den - 1)) = [] := by rw [show FT0.x.den - 1 = 0 from rfl, Jk]; rfl
 rw [e1, e2]
 exact ⟨fun hne => absurd rfl hne, fun hne => absurd rfl hne⟩
theorem Zwb {K : Nat} {X : List Rat} (h : Hb K (pol X)) {k : Nat} (hk : k < X.length) : Qa (X.getD k 0) ≤ K := by
 have h1 := h.siz _ (getD_mem (pol X) (d := T0) (show k < (pol X).length by rw [Yg]; exact hk))
 rwa [Gt hk] at h1
theorem Tb.nrmDL {d K : Nat} {X : List Rat} (h : Tb d K X) : DL d (norm (pol X)) := fun u hu => by
 obtain ⟨hc, hne⟩ := Zh4 hu
 obtain ⟨t, ht, e1, e2⟩ := Zfa hc
 obtain ⟨k, hk, rfl⟩ := Zo9 ht
 have h1 := Zrm (Gz (pol X)) hu
 rw [Gf, e1, e2] at h1
 rw [h.len] at hk
 have h2 := Zwc (X := X) (i := k / 13) (j := k % 13) (Nat.mod_lt _ dd)
 rw [show 13 * (k / 13) + k % 13 = k by omega] at h2
 have h3 := h.deg k hk (by rw [← h2]; simp only at h1; rw [h1]; exact hne)
 simp only at e1 e2
 omega
theorem Tb.pq {d K : Nat} {X : List Rat} (h : Tb d K X) (hd : d ≤ 12) : Pq d K (norm (pol X)) :=
 ⟨h.nrmDL, Nat.le_trans (Zpe (Gz (pol X)) h.nrmDL) (Nat.le_trans (Kz (show d + 1 ≤ 13 by omega)) dd), h.hgt.nrm⟩
theorem Tb.of_pq {d K : Nat} {X : List Rat} {p : List Tm} (hl : X.length = 169) (he : Eqv (pol X) p) (h : Pq d K (norm p)) : Tb d K X :=
 Tb.of_eqv hl (he.trans (Eqv.nrm p).symm) h.deg h.hgt
theorem Tb.lenl {d K : Nat} {l : List FT} (h : Tb d K (xs l)) : l.length = 169 := by rw [← Zid]; exact h.len
theorem Tb.sizl {d K : Nat} {l : List FT} (h : Tb d K (xs l)) {k : Nat} (hk : k < 169) : Qa (l.getD k FT0).x ≤ K := by rw [Kj]; exact h.siz hk
theorem Tb.degl {d K : Nat} {l : List FT} (h : Tb d K (xs l)) {k : Nat} (hk : k < 169) (hne : (l.getD k FT0).x ≠ 0) : k / 13 + k % 13 ≤ d := h.deg k hk (by rw [← Kj]; exact hne)
theorem Tb.mulP {da db Ka Kb : Nat} {A B X : List Rat} (ha : Tb da Ka A) (hb : Tb db Kb B) (hd : da + db ≤ 12) (hl : X.length = 169) (he : Eqv (pol X) (Xv (pol A) (pol B))) : Tb (da + db) (Ka + Kb) X := by
 refine Tb.of_pq hl he ?_
 rw [Va (show Eqv (Xv (pol A) (pol B)) (Xv (norm (pol A)) (norm (pol B))) from (Eqv.nrm _).symm.mul (Eqv.nrm _).symm)]
 exact Pq.mul (ha.pq oo) (hb.pq oo) hd
theorem Tb.addP {da db Ka Kb : Nat} {A B X : List Rat} (ha : Tb da Ka A) (hb : Tb db Kb B) (h1 : da ≤ 12) (h2 : db ≤ 12) (hl : X.length = 169) (he : Eqv (pol X) (pol A ++ pol B)) : Tb (max da db) (Ka + Kb + 2) X := by
 refine Tb.of_pq hl he ?_
 rw [Va (show Eqv (pol A ++ pol B) (norm (pol A) ++ norm (pol B)) from (Eqv.nrm _).symm.append (Eqv.nrm _).symm)]
 exact Pq.add (ha.pq h1) (hb.pq h2) h1 h2
theorem Tb.scaleP {d K Kc : Nat} {c : Rat} {A X : List Rat} (ha : Tb d K A) (hc : Qa c ≤ Kc) (h1 : d ≤ 12) (hl : X.length = 169) (he : Eqv (pol X) (Qw c (pol A))) : Tb d (Kc + K + 1) X := by
 refine Tb.of_pq hl he ?_
 rw [Va (show Eqv (Qw c (pol A)) (Qw c (norm (pol A))) from (Eqv.nrm _).symm.scale c)]
 exact Pq.scale (ha.pq h1) hc h1
theorem Zwu (a b c : Rat) : (Zt5 a b c).length = 169 := by unfold Zt5; simp only [List.length_set, List.length_replicate]
theorem Zz9 : oneX.length = 169 := by unfold oneX; simp only [List.length_set, List.length_replicate]
theorem Tb.lineP {K : Nat} {a b c : Rat} (ha : Qa a ≤ K) (hb : Qa b ≤ K) (hc : Qa c ≤ K) : Tb 1 (3 * K + 4) (Zt5 a b c) :=
 Tb.of_eqv (Zwu a b c) (Zna a b c) (Pq.line ha hb hc).deg (Pq.line ha hb hc).hgt
theorem Tb.oneP : Tb 0 4 oneX := Tb.of_eqv Zz9 Zrk Pq.one.deg Pq.one.hgt
def PostT (d K : Nat) (p : List Tm) (v : Value) (Ψ : List Qh) : Prop := ∃ b l, v = .slice (some ⟨b, 0, none⟩) 169 169 ∧ Tb d K (xs l) ∧ Eqv (pol (xs l)) p ∧ Ψ = [Row (some ⟨b, 0, none⟩) (cellsOf Yq l), AllF l]
def Qci (d K : Nat) (p : List Tm) (v : Value) (Ψ : List Qh) : Prop := ∃ b l, v = .tuple #[.slice (some ⟨b, 0, none⟩) 169 169, .int .i64 0] ∧ Tb d K (xs l) ∧ Eqv (pol (xs l)) p ∧ Ψ = [Row (some ⟨b, 0, none⟩) (cellsOf Yq l), AllF l]
theorem Zzv {X Y : List Tm} {A : List Rat} {k : Nat} (hk : k < A.length) (hz : A.getD k 0 = 0) : Eqv (sbL X Y ((pol A).take (k + 1))) (sbL X Y ((pol A).take k)) := fun φ => by
 rw [take_snoc (pol A) (show k < (pol A).length by rw [Yg]; exact hk), Zh1, Jb, Gt hk, hz]
 unfold sbT; rw [Xh]; grind
theorem Zzu {X Y : List Tm} {A : List Rat} {k : Nat} (hk : k < A.length) : Eqv (sbL X Y ((pol A).take (k + 1))) (sbL X Y ((pol A).take k) ++ Qw (A.getD k 0) (Xv (Yt X (k / 13)) (Yt Y (k % 13)))) := fun φ => by
 rw [take_snoc (pol A) (show k < (pol A).length by rw [Yg]; exact hk), Zh1, Gt hk]; rfl
theorem Qdi {X Y : List Tm} {A : List Rat} (hA : A.length = 169) : sbL X Y ((pol A).take 169) = sbL X Y (pol A) := by
 rw [List.take_of_length_le (by rw [Yg, hA]; exact Nat.le_refl _)]
theorem Qdd (x : Rat) : (x.num.sign == 0) = decide (x = 0) := by
 by_cases h : x = 0
 · subst h; rfl
 · rw [decide_eq_false h]; exact beq_eq_false_iff_ne.2 (fun e => h (Rat.num_eq_zero.1 (Int.sign_eq_zero_iff_zero.1 e)))
theorem AllF.g1 {l : List FT} {X : Nat → Prop} {w : World} (h : (AllF l).p X w) (k : Nat) : (Row (l.getD k FT0).a1 (List.map Zo (dg (l.getD k FT0).x.num.natAbs))).p X w := by
 by_cases hk : k < l.length
 · exact AllF.get1 h (getD_mem _ hk)
 · rw [List.getD_eq_getElem?_getD, List.getElem?_eq_none oo]; exact (AllF.zeros 1 X w FT0 ss).1
theorem AllF.g2 {l : List FT} {X : Nat → Prop} {w : World} (h : (AllF l).p X w) (k : Nat) : (Row (l.getD k FT0).a2 (List.map Zo (dg ((l.getD k FT0).x.den - 1)))).p X w := by
 by_cases hk : k < l.length
 · exact AllF.get2 h (getD_mem _ hk)
 · rw [List.getD_eq_getElem?_getD, List.getElem?_eq_none oo]; exact (AllF.zeros 1 X w FT0 ss).2
theorem zeroFT (w : World) : (zeroValue 56).run Tryz.prog w = .ok (Yq FT0) w := Zdj w
theorem Zar : Zkr Tryz.prog 105 [] [] (fun v σn => ∃ b, v = .slice (some ⟨b, 0, none⟩) 169 169 ∧ σn = [(b, .cells (cellsOf Yq (List.replicate 169 FT0)).toArray 56 (0, 0))]) := by
 refine fn_introO func105 rfl ntmps105 nb ?_
 intro S w0 a hS h
 refine gC h (zS (za rfl (zn (zS ?_)))); clear h; intro a w h
 refine Zh (Xo h rfl rfl runUnderlying31 typeInfo56 sizeOf56 zeroFT rfl dd (by exact Nat.le_refl _) (by show 56 * (169) ≤ 281474976710656; omega) dd dd ?_); clear h; intro b1 a w h; replace h := h.same rfl (by rw [← Zgw (enc := Yq)]) rfl
 refine gL h (za rfl (zn (zt ?_))); clear h; intro a w h
 exact Zq3 h (Zd h rfl (.tmp rfl)) ⟨b1, rfl, rfl⟩ (List.Sublist.refl _)
theorem C_tOne : Ctr Tryz.prog 163 [] [] (PostT 0 4 [⟨0, 0, 1⟩]) := by
 refine fn_intro func163 rfl ntmps163 nb ?_
 intro S w0 a hS h
 refine gC h (zS (za rfl (zn (zS ?_)))); clear h; intro a w h
 refine Zh (Js h (vs := []) rfl call105 (Zar) ss dd ?_); clear h; rintro v2 σ2 a w ⟨b2, rfl, rfl⟩ h
 replace h := h.derive (R := AllF (List.replicate 169 FT0)) (fun X hX => AllF.zeros 169 X _)
 refine gL h (za rfl (zn (zS (zm rfl (zf [_] rfl call67 (Zcq 1 oo oo) ?_))))); rintro v4 Ψ4 ⟨ad4, c4, bd4, d4, rfl, hle4, hlf4, rfl⟩
 have hl4 := Qe 1 oo oo
 refine zp (.indexAddr rfl rfl (Zbp _ _ _ _ 0 oo)) (zt' (b := b2) (cs := (cellsOf Yq (List.replicate 169 FT0)).toArray) (cs' := (cellsOf Yq ((List.replicate 169 FT0).set 0 (FT.mk (((1 : Int) : Rat)) ad4 c4 bd4 d4 hle4 hlf4))).toArray) (v := Yq (FT.mk (((1 : Int) : Rat)) ad4 c4 bd4 d4 hle4 hlf4)) rfl rfl (Vh (k := 3) (fun _ => rfl) (List.replicate 169 FT0) 0 ss (FT.mk (((1 : Int) : Rat)) ad4 c4 bd4 d4 hle4 hlf4)) uu sizeOf56 rfl (Gk (k := 3) (fun _ => rfl) (List.replicate 169 FT0) 0 ss) rfl ?_)
 refine zn (zS (zm rfl (za rfl (zn (zt ?_))))); intro a w h
 replace h := h.derive (R := AllF ((List.replicate 169 FT0).set 0 (FT.mk (((1 : Int) : Rat)) ad4 c4 bd4 d4 hle4 hlf4))) (fun X hX => AllF.set (hX _ mm) (hX _ mm) (hX _ mm))
 replace h := h.shareAll hS (cellsOf Yq ((List.replicate 169 FT0).set 0 (FT.mk (((1 : Int) : Rat)) ad4 c4 bd4 d4 hle4 hlf4))) rfl
 have hx : xs ((List.replicate 169 FT0).set 0 (FT.mk (((1 : Int) : Rat)) ad4 c4 bd4 d4 hle4 hlf4)) = oneX := by rw [Zg3, Gp]; rfl
 exact Qk (Ψ := [Row (some ⟨b2, 0, none⟩) (cellsOf Yq ((List.replicate 169 FT0).set 0 (FT.mk (((1 : Int) : Rat)) ad4 c4 bd4 d4 hle4 hlf4))), AllF ((List.replicate 169 FT0).set 0 (FT.mk (((1 : Int) : Rat)) ad4 c4 bd4 d4 hle4 hlf4))]) h (Zd h rfl (.tmp rfl)) ⟨b2, _, rfl, by rw [hx]; exact Tb.oneP, by rw [hx]; exact Zrk, rfl⟩ ss
theorem Zyk (p1 p3 q1 q3 r1 r3 : Option Addr) (p2 p4 q2 q4 r2 r4 : Nat) (x y z : Rat) (K : Nat) (hx : Qa x ≤ K) (hy : Qa y ≤ K) (hz : Qa z ≤ K) (hp2 : (dg x.num.natAbs).length ≤ p2) (hp4 : (dg (x.den - 1)).length ≤ p4) (hq2 : (dg y.num.natAbs).length ≤ q2) (hq4 : (dg (y.den - 1)).length ≤ q4) (hr2 : (dg z.num.natAbs).length ≤ r2) (hr4 : (dg (z.den - 1)).length ≤ r4) : Ctr Tryz.prog 125 [fV x p1 p2 p3 p4, fV y q1 q2 q3 q4, fV z r1 r2 r3 r4] [Row p1 (List.map Zo (dg x.num.natAbs)), Row p3 (List.map Zo (dg (x.den - 1))), Row q1 (List.map Zo (dg y.num.natAbs)), Row q3 (List.map Zo (dg (y.den - 1))), Row r1 (List.map Zo (dg z.num.natAbs)), Row r3 (List.map Zo (dg (z.den - 1)))] (PostT 1 (3 * K + 4) (ln x y z)) := by
 refine fn_intro func125 rfl ntmps125 nb ?_
 intro S w0 a hS h
 refine gC h (zS (zx rfl fun b3 => zx rfl fun b4 => zx rfl fun b5 => za rfl (zn (zS ?_)))); clear h; intro a w h
 refine Zh (Js h (vs := []) rfl call105 (Zar) ss dd ?_); clear h; rintro v8 σ8 a w ⟨b8, rfl, rfl⟩ h
 replace h := h.derive (R := AllF (List.replicate 169 FT0)) (fun X hX => AllF.zeros 169 X _)
 refine gL h (za rfl (zn (zS (zm rfl (zd rfl mr isAgg56 sizeOf56 Zi ?_)))))
 refine zp (.indexAddr rfl rfl (Zbp _ _ _ _ 13 oo)) (zt' (b := b8) (cs := (cellsOf Yq (List.replicate 169 FT0)).toArray) (cs' := (cellsOf Yq ((List.replicate 169 FT0).set 13 (FT.mk x p1 p2 p3 p4 hp2 hp4))).toArray) (v := Yq (FT.mk x p1 p2 p3 p4 hp2 hp4)) rfl rfl (Vh (k := 3) (fun _ => rfl) (List.replicate 169 FT0) 13 (by simp only [List.length_replicate]; omega) (FT.mk x p1 p2 p3 p4 hp2 hp4)) uu sizeOf56 rfl (Gk (k := 3) (fun _ => rfl) (List.replicate 169 FT0) 13 (by simp only [List.length_replicate]; omega)) rfl ?_)
 refine zn (zS (zm rfl (zd rfl mr isAgg56 sizeOf56 Zi ?_)))
 refine zp (.indexAddr rfl rfl (Zbp _ _ _ _ 1 oo)) (zt' (b := b8) (cs := (cellsOf Yq ((List.replicate 169 FT0).set 13 (FT.mk x p1 p2 p3 p4 hp2 hp4))).toArray) (cs' := (cellsOf Yq (((List.replicate 169 FT0).set 13 (FT.mk x p1 p2 p3 p4 hp2 hp4)).set 1 (FT.mk y q1 q2 q3 q4 hq2 hq4))).toArray) (v := Yq (FT.mk y q1 q2 q3 q4 hq2 hq4)) rfl rfl (Vh (k := 3) (fun _ => rfl) ((List.replicate 169 FT0).set 13 (FT.mk x p1 p2 p3 p4 hp2 hp4)) 1 (by simp only [List.length_set, List.length_replicate]; omega) (FT.mk y q1 q2 q3 q4 hq2 hq4)) uu sizeOf56 rfl (Gk (k := 3) (fun _ => rfl) ((List.replicate 169 FT0).set 13 (FT.mk x p1 p2 p3 p4 hp2 hp4)) 1 (by simp only [List.length_set, List.length_replicate]; omega)) rfl ?_)
 refine zn (zS (zm rfl (zd rfl mr isAgg56 sizeOf56 Zi ?_)))
 refine zp (.indexAddr rfl rfl (Zbp _ _ _ _ 0 oo)) (zt' (b := b8) (cs := (cellsOf Yq (((List.replicate 169 FT0).set 13 (FT.mk x p1 p2 p3 p4 hp2 hp4)).set 1 (FT.mk y q1 q2 q3 q4 hq2 hq4))).toArray) (cs' := (cellsOf Yq ((((List.replicate 169 FT0).set 13 (FT.mk x p1 p2 p3 p4 hp2 hp4)).set 1 (FT.mk y q1 q2 q3 q4 hq2 hq4)).set 0 (FT.mk z r1 r2 r3 r4 hr2 hr4))).toArray) (v := Yq (FT.mk z r1 r2 r3 r4 hr2 hr4)) rfl rfl (Vh (k := 3) (fun _ => rfl) (((List.replicate 169 FT0).set 13 (FT.mk x p1 p2 p3 p4 hp2 hp4)).set 1 (FT.mk y q1 q2 q3 q4 hq2 hq4)) 0 (by simp only [List.length_set, List.length_replicate]; omega) (FT.mk z r1 r2 r3 r4 hr2 hr4)) uu sizeOf56 rfl (Gk (k := 3) (fun _ => rfl) (((List.replicate 169 FT0).set 13 (FT.mk x p1 p2 p3 p4 hp2 hp4)).set 1 (FT.mk y q1 q2 q3 q4 hq2 hq4)) 0 (by simp only [List.length_set, List.length_replicate]; omega)) rfl ?_)
 refine zn (zS (zm rfl (za rfl (zn (zt ?_))))); intro a w h
 replace h := h.derive (R := AllF ((List.replicate 169 FT0).set 13 (FT.mk x p1 p2 p3 p4 hp2 hp4))) (fun X hX => AllF.set (hX _ mm) (hX _ mm) (hX _ mm))
 replace h := h.derive (R := AllF (((List.replicate 169 FT0).set 13 (FT.mk x p1 p2 p3 p4 hp2 hp4)).set 1 (FT.mk y q1 q2 q3 q4 hq2 hq4))) (fun X hX => AllF.set (hX _ mm) (hX _ mm) (hX _ mm))
 replace h := h.derive (R := AllF ((((List.replicate 169 FT0).set 13 (FT.mk x p1 p2 p3 p4 hp2 hp4)).set 1 (FT.mk y q1 q2 q3 q4 hq2 hq4)).set 0 (FT.mk z r1 r2 r3 r4 hr2 hr4))) (fun X hX => AllF.set (hX _ mm) (hX _ mm) (hX _ mm))
 replace h := h.shareAll hS (cellsOf Yq ((((List.replicate 169 FT0).set 13 (FT.mk x p1 p2 p3 p4 hp2 hp4)).set 1 (FT.mk y q1 q2 q3 q4 hq2 hq4)).set 0 (FT.mk z r1 r2 r3 r4 hr2 hr4))) rfl
 have hx3 : xs ((((List.replicate 169 FT0).set 13 (FT.mk x p1 p2 p3 p4 hp2 hp4)).set 1 (FT.mk y q1 q2 q3 q4 hq2 hq4)).set 0 (FT.mk z r1 r2 r3 r4 hr2 hr4)) = Zt5 x y z := by rw [Zg3, Zg3, Zg3, Gp]; rfl
 exact Qk (Ψ := [Row (some ⟨b8, 0, none⟩) (cellsOf Yq ((((List.replicate 169 FT0).set 13 (FT.mk x p1 p2 p3 p4 hp2 hp4)).set 1 (FT.mk y q1 q2 q3 q4 hq2 hq4)).set 0 (FT.mk z r1 r2 r3 r4 hr2 hr4))), AllF ((((List.replicate 169 FT0).set 13 (FT.mk x p1 p2 p3 p4 hp2 hp4)).set 1 (FT.mk y q1 q2 q3 q4 hq2 hq4)).set 0 (FT.mk z r1 r2 r3 r4 hr2 hr4))]) h (Zd h rfl (.tmp rfl)) ⟨b8, _, rfl, by rw [hx3]; exact Tb.lineP hx hy hz, by rw [hx3]; exact Zna x y z, rfl⟩ ss
theorem Qbk (b1 : Nat) (la : List FT) (da Ka : Nat) (ha : Tb da Ka (xs la)) (hda : da ≤ 12) (hka : Ka ≤ 1000000000) (p1 p3 : Option Addr) (p2 p4 Kc : Nat) (x : Rat) (hx : Qa x ≤ Kc) (hkc : Kc ≤ 1000000000) : Ctr Tryz.prog 110 [.slice (some ⟨b1, 0, none⟩) 169 169, fV x p1 p2 p3 p4] [Row (some ⟨b1, 0, none⟩) (cellsOf Yq la), AllF la, Row p1 (List.map Zo (dg x.num.natAbs)), Row p3 (List.map Zo (dg (x.den - 1)))] (PostT da (Kc + Ka + 1) (Qw x (pol (xs la)))) := by
 refine fn_intro func110 rfl ntmps110 nb ?_
 intro S w0 a hS h
 refine gC h (zS (zx rfl fun b3 => za rfl (zn (zS ?_)))); clear h; intro a w h
 refine Zh (Js h (vs := []) rfl call105 (Zar) ss dd ?_); clear h; rintro v7 σ7 a w ⟨b7, rfl, rfl⟩ h
 replace h := h.derive (R := AllF (List.replicate 169 FT0)) (fun X hX => AllF.zeros 169 X _)
 refine gL h (za rfl (zn (zs (zS (za rfl (zn (zb ?_))))))); clear h; intro a w h
 refine Zg (fun (k : Nat) a w => k ≤ 169 ∧ ∃ l, ((l.length = 169 ∧ xs l = scX x (xs la) k)) ∧ St 22 S w0 [(0, .slice (some ⟨b1, 0, none⟩) 169 169), (3, pB b3), (4, .slice none 0 0), (5, .slice (some ⟨b7, 0, none⟩) 169 169), (6, nI k)] [(b7, .cells (cellsOf Yq (l)).toArray 56 (0, 0)), (b3, bV (.agg #[.bool (decide (x.num < 0)), .slice p1 (dg x.num.natAbs).length p2, .slice p3 (dg (x.den - 1)).length p4]) 56)] [AllF l, Row (some ⟨b1, 0, none⟩) (cellsOf Yq la), AllF la, Row p1 (List.map Zo (dg x.num.natAbs)), Row p3 (List.map Zo (dg (x.den - 1)))] a w) (fun k => 169 - k) 0 (⟨Nat.zero_le _, List.replicate 169 FT0, ⟨List.length_replicate, Gp⟩, by exact (h.factsSub (by simp)).sub (Zff ⟨rfl, rfl, rfl, rfl, rfl, trivial⟩)⟩) ?_; clear h
 rintro k a w ⟨hi_k, l, ⟨hln, hxl⟩, h⟩
 refine gC h (zs (zS (zm rfl (zp (.lss rfl rfl) (zn ?_))))); clear h; intro a w h
 refine cW ?_
 refine Zc h rfl (fun hc9 => ?_) (fun hc9 => ?_)
 ·
  skip
  have hlt_k : k < 169 := dT hc9
  have hn1 := ha.lenl
  have hm1 : la.getD k FT0 ∈ la := getD_mem _ oo
  have hz1 := ha.sizl (k := k) oo
  replace h := h.derive (R := Row (la.getD k FT0).a2 (List.map Zo (dg ((la.getD k FT0).x.den - 1)))) (fun X hX => AllF.get2 (hX _ mm) hm1)
  replace h := h.derive (R := Row (la.getD k FT0).a1 (List.map Zo (dg (la.getD k FT0).x.num.natAbs))) (fun X hX => AllF.get1 (hX _ mm) hm1)
  refine gC h (zk (zs (zb (yD Za [0, 1, 2, 3, 4, 5, 6, 7, 8, 9] (Zb kk) (ym rfl rfl (ym rfl rfl (yd rfl rfl mr isAgg56 sizeOf56 Zi ?_))))))); clear h
  refine ym rfl rfl (ym rfl rfl (yp rfl (.indexAddr rfl rfl (Zbp _ _ _ _ _ oo)) ?_))
  refine Zm rfl kk rfl mm (cells_lt (k := 3) dd (fun _ => rfl) la k oo) isAgg56 sizeOf56 (Qb (k := 3) (fun _ => rfl) ((fun _ => rfl)) la FT0 k oo) (.inl rfl) dd ?_
  refine yf [_, _] rfl rfl call70 (Zb3 _ _ _ _ _ _ _ _ x ((la.getD k FT0).x) oo oo) ?_; rintro v19 Ψ19 ⟨ad19, c19, bd19, d19, rfl, hle19, hlf19, rfl⟩
  have hl19 := Zu x ((la.getD k FT0).x)
  refine yp rfl (.indexAddr rfl rfl (Zbp _ _ _ _ _ oo)) ?_
  refine Za1 (b := b7) (cs := (cellsOf Yq l).toArray) (cs' := (cellsOf Yq (l.set k (FT.mk (x * ((la.getD k FT0).x)) ad19 c19 bd19 d19 hle19 hlf19))).toArray) (v := Yq (FT.mk (x * ((la.getD k FT0).x)) ad19 c19 bd19 d19 hle19 hlf19)) rfl kk rfl rfl (Vh (k := 3) (fun _ => rfl) l k oo (FT.mk (x * ((la.getD k FT0).x)) ad19 c19 bd19 d19 hle19 hlf19)) uu sizeOf56 rfl (Gk (k := 3) (fun _ => rfl) l k oo) rfl ?_
  refine yn (zr (zm rfl (zp (.pN (k + 1) (.add rfl rfl)) (za rfl (zn ?_))))); intro a w h
  replace h := h.derive (R := AllF (l.set k (FT.mk (x * ((la.getD k FT0).x)) ad19 c19 bd19 d19 hle19 hlf19))) (fun X hX => AllF.set (hX _ mm) (hX _ mm) (hX _ mm))
  have hx2 : xs (l.set k (FT.mk (x * ((la.getD k FT0).x)) ad19 c19 bd19 d19 hle19 hlf19)) = scX x (xs la) (k + 1) := by rw [Zg3, hxl, scX, ← Kj]
  exact ⟨k + 1, ⟨oo, l.set k (FT.mk (x * ((la.getD k FT0).x)) ad19 c19 bd19 d19 hle19 hlf19), ⟨by rw [List.length_set]; exact hln, hx2⟩, by exact (h.factsSub (by simp)).sub sA⟩, oo⟩
 ·
  skip
  have heq_k : 169 = k := dF hc9
  subst heq_k
  replace h := h.shareAll hS (cellsOf Yq l) rfl
  refine gC h (ze (zS (zm rfl (za rfl (zn (zt ?_)))))); clear h; intro a w h
  refine Qk (Ψ := [Row (some ⟨b7, 0, none⟩) (cellsOf Yq l), AllF l]) h (Zd h rfl (.tmp rfl)) ?_ ss
  exact ⟨b7, l, rfl, ha.scaleP hx hda (by rw [hxl]; exact Zo5 _ _ _) (by rw [hxl]; exact Zvu ha.len), by rw [hxl]; exact Zvu ha.len, rfl⟩
theorem C_tAdd (b1 : Nat) (la : List FT) (da Ka : Nat) (ha : Tb da Ka (xs la)) (hda : da ≤ 12) (hka : Ka ≤ 1000000000) (b2 : Nat) (lb : List FT) (db Kb : Nat) (hb : Tb db Kb (xs lb)) (hdb : db ≤ 12) (hkb : Kb ≤ 1000000000) : Ctr Tryz.prog 102 [.slice (some ⟨b1, 0, none⟩) 169 169, .slice (some ⟨b2, 0, none⟩) 169 169] [Row (some ⟨b1, 0, none⟩) (cellsOf Yq la), AllF la, Row (some ⟨b2, 0, none⟩) (cellsOf Yq lb), AllF lb] (PostT (max da db) (Ka + Kb + 2) (pol (xs la) ++ pol (xs lb))) := by
 refine fn_intro func102 rfl ntmps102 nb ?_
 intro S w0 a hS h
 refine gC h (zS (za rfl (zn (zS ?_)))); clear h; intro a w h
 refine Zh (Js h (vs := []) rfl call105 (Zar) ss dd ?_); clear h; rintro v7 σ7 a w ⟨b7, rfl, rfl⟩ h
 replace h := h.derive (R := AllF (List.replicate 169 FT0)) (fun X hX => AllF.zeros 169 X _)
 refine gL h (za rfl (zn (zs (zS (za rfl (zn (zb ?_))))))); clear h; intro a w h
 refine Zg (fun (k : Nat) a w => k ≤ 169 ∧ ∃ l, ((l.length = 169 ∧ xs l = Zs6 (xs la) (xs lb) k)) ∧ St 25 S w0 [(0, .slice (some ⟨b1, 0, none⟩) 169 169), (1, .slice (some ⟨b2, 0, none⟩) 169 169), (4, .slice none 0 0), (5, .slice (some ⟨b7, 0, none⟩) 169 169), (6, nI k)] [(b7, .cells (cellsOf Yq (l)).toArray 56 (0, 0))] [AllF l, Row (some ⟨b1, 0, none⟩) (cellsOf Yq la), AllF la, Row (some ⟨b2, 0, none⟩) (cellsOf Yq lb), AllF lb] a w) (fun k => 169 - k) 0 (⟨Nat.zero_le _, List.replicate 169 FT0, ⟨List.length_replicate, Gp⟩, by exact (h.factsSub (by simp)).sub (Zff ⟨rfl, rfl, rfl, rfl, rfl, trivial⟩)⟩) ?_; clear h
 rintro k a w ⟨hi_k, l, ⟨hln, hxl⟩, h⟩
 refine gC h (zs (zS (zm rfl (zp (.lss rfl rfl) (zn ?_))))); clear h; intro a w h
 refine cW ?_
 refine Zc h rfl (fun hc9 => ?_) (fun hc9 => ?_)
 ·
  skip
  have hlt_k : k < 169 := dT hc9
  have hn1 := ha.lenl
  have hm1 : la.getD k FT0 ∈ la := getD_mem _ oo
  have hz1 := ha.sizl (k := k) oo
  replace h := h.derive (R := Row (la.getD k FT0).a2 (List.map Zo (dg ((la.getD k FT0).x.den - 1)))) (fun X hX => AllF.get2 (hX _ mm) hm1)
  replace h := h.derive (R := Row (la.getD k FT0).a1 (List.map Zo (dg (la.getD k FT0).x.num.natAbs))) (fun X hX => AllF.get1 (hX _ mm) hm1)
  have hn2 := hb.lenl
  have hm2 : lb.getD k FT0 ∈ lb := getD_mem _ oo
  have hz2 := hb.sizl (k := k) oo
  replace h := h.derive (R := Row (lb.getD k FT0).a2 (List.map Zo (dg ((lb.getD k FT0).x.den - 1)))) (fun X hX => AllF.get2 (hX _ mm) hm2)
  replace h := h.derive (R := Row (lb.getD k FT0).a1 (List.map Zo (dg (lb.getD k FT0).x.num.natAbs))) (fun X hX => AllF.get1 (hX _ mm) hm2)
  refine gC h (zk (zs (zb (yD Za [0, 1, 2, 3, 4, 5, 6, 7, 8, 9, 10, 11, 12] (Zb kk) (ym rfl rfl (ym rfl rfl (ym rfl rfl (ym rfl rfl (yp rfl (.indexAddr rfl rfl (Zbp _ _ _ _ _ oo)) ?_))))))))); clear h
  refine Zm rfl kk rfl mm (cells_lt (k := 3) dd (fun _ => rfl) la k oo) isAgg56 sizeOf56 (Qb (k := 3) (fun _ => rfl) ((fun _ => rfl)) la FT0 k oo) (.inl rfl) dd ?_
  refine ym rfl rfl (ym rfl rfl (yp rfl (.indexAddr rfl rfl (Zbp _ _ _ _ _ oo)) ?_))
  refine Zm rfl kk rfl mm (cells_lt (k := 3) dd (fun _ => rfl) lb k oo) isAgg56 sizeOf56 (Qb (k := 3) (fun _ => rfl) ((fun _ => rfl)) lb FT0 k oo) (.inl rfl) dd ?_
  refine yf [_, _] rfl rfl call65 (Zhj _ _ _ _ _ _ _ _ ((la.getD k FT0).x) ((lb.getD k FT0).x) oo oo) ?_; rintro v22 Ψ22 ⟨ad22, c22, bd22, d22, rfl, hle22, hlf22, rfl⟩
  have hl22 := Qs ((la.getD k FT0).x) ((lb.getD k FT0).x)
  refine yp rfl (.indexAddr rfl rfl (Zbp _ _ _ _ _ oo)) ?_
  refine Za1 (b := b7) (cs := (cellsOf Yq l).toArray) (cs' := (cellsOf Yq (l.set k (FT.mk (((la.getD k FT0).x) + ((lb.getD k FT0).x)) ad22 c22 bd22 d22 hle22 hlf22))).toArray) (v := Yq (FT.mk (((la.getD k FT0).x) + ((lb.getD k FT0).x)) ad22 c22 bd22 d22 hle22 hlf22)) rfl kk rfl rfl (Vh (k := 3) (fun _ => rfl) l k oo (FT.mk (((la.getD k FT0).x) + ((lb.getD k FT0).x)) ad22 c22 bd22 d22 hle22 hlf22)) uu sizeOf56 rfl (Gk (k := 3) (fun _ => rfl) l k oo) rfl ?_
  refine yn (zr (zm rfl (zp (.pN (k + 1) (.add rfl rfl)) (za rfl (zn ?_))))); intro a w h
  replace h := h.derive (R := AllF (l.set k (FT.mk (((la.getD k FT0).x) + ((lb.getD k FT0).x)) ad22 c22 bd22 d22 hle22 hlf22))) (fun X hX => AllF.set (hX _ mm) (hX _ mm) (hX _ mm))
  have hx2 : xs (l.set k (FT.mk (((la.getD k FT0).x) + ((lb.getD k FT0).x)) ad22 c22 bd22 d22 hle22 hlf22)) = Zs6 (xs la) (xs lb) (k + 1) := by rw [Zg3, hxl, Zs6, ← Kj, ← Kj]
  exact ⟨k + 1, ⟨oo, l.set k (FT.mk (((la.getD k FT0).x) + ((lb.getD k FT0).x)) ad22 c22 bd22 d22 hle22 hlf22), ⟨by rw [List.length_set]; exact hln, hx2⟩, by exact (h.factsSub (by simp)).sub sA⟩, oo⟩
 ·
  skip
  have heq_k : 169 = k := dF hc9
  subst heq_k
  replace h := h.shareAll hS (cellsOf Yq l) rfl
  refine gC h (ze (zS (zm rfl (za rfl (zn (zt ?_)))))); clear h; intro a w h
  refine Qk (Ψ := [Row (some ⟨b7, 0, none⟩) (cellsOf Yq l), AllF l]) h (Zd h rfl (.tmp rfl)) ?_ ss
  exact ⟨b7, l, rfl, ha.addP hb hda hdb (by rw [hxl]; exact Zl6 _ _ _) (by rw [hxl]; exact Zs5 ha.len hb.len), by rw [hxl]; exact Zs5 ha.len hb.len, rfl⟩
theorem Qcp (b1 : Nat) (la : List FT) (da Ka : Nat) (ha : Tb da Ka (xs la)) (hda : da ≤ 12) (hka : Ka ≤ 1000000000) (b2 : Nat) (lb : List FT) (db Kb : Nat) (hb : Tb db Kb (xs lb)) (hdb : db ≤ 12) (hkb : Kb ≤ 1000000000) (hd : da + db ≤ 12) : Ctr Tryz.prog 101 [.slice (some ⟨b1, 0, none⟩) 169 169, .slice (some ⟨b2, 0, none⟩) 169 169] [Row (some ⟨b1, 0, none⟩) (cellsOf Yq la), AllF la, Row (some ⟨b2, 0, none⟩) (cellsOf Yq lb), AllF lb] (Qci (da + db) (Ka + Kb) (Xv (pol (xs la)) (pol (xs lb)))) := by
 refine fn_intro func101 rfl ntmps101 nb ?_
 intro S w0 a hS h
 refine gC h (zS (za rfl (za rfl (zn (zS ?_))))); clear h; intro a w h
 refine Zh (Js h (vs := []) rfl call105 (Zar) ss dd ?_); clear h; rintro v11 σ11 a w ⟨b11, rfl, rfl⟩ h
 replace h := h.derive (R := AllF (List.replicate 169 FT0)) (fun X hX => AllF.zeros 169 X _)
 refine gL h (za rfl (zn (zs (zS (za rfl (zn (zb ?_))))))); clear h; intro a w h
 refine Zg (fun (k : Nat) a w => k ≤ 169 ∧ ∃ l, ((l.length = 169 ∧ Eqv (pol (xs l)) (qM (xs la) (xs lb) k 0))) ∧ St 73 S w0 [(0, .slice (some ⟨b1, 0, none⟩) 169 169), (1, .slice (some ⟨b2, 0, none⟩) 169 169), (6, .slice (some ⟨b11, 0, none⟩) 169 169), (7, nI k)] [(b11, .cells (cellsOf Yq (l)).toArray 56 (0, 0))] [AllF l, Row (some ⟨b1, 0, none⟩) (cellsOf Yq la), AllF la, Row (some ⟨b2, 0, none⟩) (cellsOf Yq lb), AllF lb] a w) (fun k => 169 - k) 0 (⟨Nat.zero_le _, List.replicate 169 FT0, ⟨List.length_replicate, by rw [Gp]; exact fun φ => Jx φ 169⟩, by exact (h.factsSub (by simp)).sub (Zff ⟨rfl, rfl, rfl, rfl, trivial⟩)⟩) ?_; clear h
 rintro k a w ⟨hi_k, l, ⟨hln, hel⟩, h⟩
 refine gC h (zs (zS (zm rfl (zp (.lss rfl rfl) (zn ?_))))); clear h; intro a w h
 refine cW ?_
 refine Zc h rfl (fun hc13 => ?_) (fun hc13 => ?_)
 ·
  skip
  have hlt_k : k < 169 := dT hc13
  have hn1 := ha.lenl
  have hm1 : la.getD k FT0 ∈ la := getD_mem _ oo
  have hz1 := ha.sizl (k := k) oo
  replace h := h.derive (R := Row (la.getD k FT0).a2 (List.map Zo (dg ((la.getD k FT0).x.den - 1)))) (fun X hX => AllF.get2 (hX _ mm) hm1)
  replace h := h.derive (R := Row (la.getD k FT0).a1 (List.map Zo (dg (la.getD k FT0).x.num.natAbs))) (fun X hX => AllF.get1 (hX _ mm) hm1)
  refine gC h (zk (zs (zb (zS (za rfl (zn (zb ?_))))))); clear h; intro a w h
  refine Zg (fun (m : Nat) a w => m ≤ 169 ∧ ∃ l2, ((l2.length = 169 ∧ Eqv (pol (xs l2)) (qM (xs la) (xs lb) k m))) ∧ St 73 S w0 [(0, .slice (some ⟨b1, 0, none⟩) 169 169), (1, .slice (some ⟨b2, 0, none⟩) 169 169), (6, .slice (some ⟨b11, 0, none⟩) 169 169), (7, nI k), (8, nI m)] [(b11, .cells (cellsOf Yq (l2)).toArray 56 (0, 0))] [AllF l2, Row (la.getD k FT0).a1 (List.map Zo (dg ((la.getD k FT0).x).num.natAbs)), Row (la.getD k FT0).a2 (List.map Zo (dg (((la.getD k FT0).x).den - 1))), Row (some ⟨b1, 0, none⟩) (cellsOf Yq la), AllF la, Row (some ⟨b2, 0, none⟩) (cellsOf Yq lb), AllF lb] a w) (fun m => 169 - m) 0 (⟨Nat.zero_le _, l, ⟨hln, hel⟩, by exact (h.factsSub (by simp)).sub (Zff ⟨rfl, rfl, rfl, rfl, rfl, trivial⟩)⟩) ?_; clear h
  rintro m a w ⟨hi_m, l2, ⟨hln2, hel2⟩, h⟩
  refine gC h (zs (zS (zm rfl (zp (.lss rfl rfl) (zn ?_))))); clear h; intro a w h
  refine cW ?_
  refine Zc h rfl (fun hc17 => ?_) (fun hc17 => ?_)
  ·
   skip
   have hlt_m : m < 169 := dT hc17
   skip
   refine gC h (zk (zs (zb (zs (zS (zm rfl (zm rfl (zp (.indexAddr rfl rfl (Zbp _ _ _ _ _ oo)) (zD rfl mm (cells_lt (k := 3) dd (fun _ => rfl) la k oo) isAgg56 sizeOf56 (Qb (k := 3) (fun _ => rfl) ((fun _ => rfl)) la FT0 k oo) (.inl rfl) ?_)))))))))
   refine zv [_] rfl call86 (Zjp ((la.getD k FT0).x) _ _ _ _) (zp (.eql rfl rfl) ?_); intro a w h
   refine Zl h (fun hc25 h => ?_) (fun hc25 h => ?_)
   ·
    skip
    have hsk : (xs la).getD k 0 = 0 ∨ (xs lb).getD m 0 = 0 := .inl (by rw [Qdd] at hc25; rw [← Kj]; exact of_decide_eq_true hc25)
    refine gL h (zm rfl (zo 26 rfl rfl rfl (zo 26 rfl rfl rfl (zo 26 rfl rfl rfl (zo 26 rfl rfl rfl (zo 26 rfl rfl rfl (zo 26 rfl rfl rfl (zp (.pickT rfl rfl) (zn ?_))))))))); clear h; intro a w h
    refine cW ?_
    refine Zp h rfl ?_
    refine gC h (ze (zr (zm rfl (zp (.pN (m + 1) (.add rfl rfl)) (za rfl (zn ?_)))))); clear h; intro a w h
    skip
    exact ⟨m + 1, ⟨oo, l2, ⟨hln2, Zv3 ha.len hb.len hlt_k hlt_m hsk hel2⟩, by exact (h.factsSub (by simp)).sub sA⟩, oo⟩
   ·
    skip
    have hne1 : ((la.getD k FT0).x) ≠ 0 := by rw [Qdd] at hc25; exact of_decide_eq_false hc25
    have hn2 := hb.lenl
    have hm2 : lb.getD m FT0 ∈ lb := getD_mem _ oo
    have hz2 := hb.sizl (k := m) oo
    replace h := h.derive (R := Row (lb.getD m FT0).a2 (List.map Zo (dg ((lb.getD m FT0).x.den - 1)))) (fun X hX => AllF.get2 (hX _ mm) hm2)
    replace h := h.derive (R := Row (lb.getD m FT0).a1 (List.map Zo (dg (lb.getD m FT0).x.num.natAbs))) (fun X hX => AllF.get1 (hX _ mm) hm2)
    refine gL h (zm rfl (zq 26 rfl rfl (.move rfl) (zq 26 rfl rfl (.move rfl) (zq 26 rfl rfl (.indexAddr rfl rfl (Zbp _ _ _ _ _ oo)) ?_)))); clear h; intro a w h
    refine Zv 26 h rfl rfl (Zch h rfl mm (cells_lt (k := 3) dd (fun _ => rfl) lb m oo) isAgg56 sizeOf56 (Qb (k := 3) (fun _ => rfl) ((fun _ => rfl)) lb FT0 m oo) (.inl rfl) dd ?_); clear h; intro a h
    refine Zv 26 h rfl rfl (Yk h (vs := [_]) rfl call86 (Zjp ((lb.getD m FT0).x) _ _ _ _) dd ?_); clear h; intro a w h
    refine gL h (zq 26 rfl rfl (.eql rfl rfl) ?_); clear h; intro a w h
    refine Zl h (fun hc32 h => ?_) (fun hc32 h => ?_)
    ·
     skip
     have hsk : (xs la).getD k 0 = 0 ∨ (xs lb).getD m 0 = 0 := .inr (by rw [Qdd] at hc32; rw [← Kj]; exact of_decide_eq_true hc32)
     refine gL h (zp (.pickF rfl rfl) (zn ?_)); clear h; intro a w h
     refine cW ?_
     refine Zp h rfl ?_
     refine gC h (ze (zr (zm rfl (zp (.pN (m + 1) (.add rfl rfl)) (za rfl (zn ?_)))))); clear h; intro a w h
     skip
     exact ⟨m + 1, ⟨oo, l2, ⟨hln2, Zv3 ha.len hb.len hlt_k hlt_m hsk hel2⟩, by exact (h.factsSub (by simp)).sub sA⟩, oo⟩
    ·
     skip
     have hne2 : ((lb.getD m FT0).x) ≠ 0 := by rw [Qdd] at hc32; exact of_decide_eq_false hc32
     have hg1 := ha.degl hlt_k hne1
     have hg2 := hb.degl hlt_m hne2
     have hq1 := Nat.mod_lt k (show 0 < 13 by decide)
     have hq2 := Nat.mod_lt m (show 0 < 13 by decide)
     have hm3 : l2.getD (13 * (k / 13 + m / 13) + (k % 13 + m % 13)) FT0 ∈ l2 := getD_mem _ oo
     have hz3 : Qa (l2.getD (13 * (k / 13 + m / 13) + (k % 13 + m % 13)) FT0).x ≤ Ka + Kb := by
      rw [Kj]; exact Zwb (Hb.of_eqv (qM_Hb ha.hgt hb.hgt (k := k) (m := m) (by rw [ha.len]; exact hlt_k)) hel2) (by rw [Zid]; omega)
     replace h := h.derive (R := Row (l2.getD (13 * (k / 13 + m / 13) + (k % 13 + m % 13)) FT0).a2 (List.map Zo (dg ((l2.getD (13 * (k / 13 + m / 13) + (k % 13 + m % 13)) FT0).x.den - 1)))) (fun X hX => AllF.get2 (hX _ mm) hm3)
     replace h := h.derive (R := Row (l2.getD (13 * (k / 13 + m / 13) + (k % 13 + m % 13)) FT0).a1 (List.map Zo (dg (l2.getD (13 * (k / 13 + m / 13) + (k % 13 + m % 13)) FT0).x.num.natAbs))) (fun X hX => AllF.get1 (hX _ mm) hm3)
     refine gL h (zp (.pickF rfl rfl) (zn ?_)); clear h; intro a w h
     refine cW ?_
     refine Zk h rfl ?_
     refine gC h (zk (zS (zm rfl (zp (Pure1.cast (v' := .int .i64 (((k) / 13 : Nat) : Int)) (.binOp rfl rfl (fun _ => Ys _ _ _ _ _ dd)) (by rw [show (13 : Int) = ((13 : Nat) : Int) from rfl, Xp, wrap_i64 _ oo oo])) (zm rfl (zp (Pure1.cast (v' := .int .i64 (((m) / 13 : Nat) : Int)) (.binOp rfl rfl (fun _ => Ys _ _ _ _ _ dd)) (by rw [show (13 : Int) = ((13 : Nat) : Int) from rfl, Xp, wrap_i64 _ oo oo])) (zp (.pN (k / 13 + m / 13) (Pure1.cast (v' := (.int .i64 ((((k) / 13) + ((m) / 13) : Nat) : Int))) (.add rfl rfl) (by show Value.int _ _ = Value.int _ _; congr 1))) (zm rfl (zp (Pure1.cast (v' := .int .i64 (((k) % 13 : Nat) : Int)) (.binOp rfl rfl (fun _ => Ye _ _ _ _ _ dd)) (by rw [show (13 : Int) = ((13 : Nat) : Int) from rfl, Xl])) (zm rfl (zp (Pure1.cast (v' := .int .i64 (((m) % 13 : Nat) : Int)) (.binOp rfl rfl (fun _ => Ye _ _ _ _ _ dd)) (by rw [show (13 : Int) = ((13 : Nat) : Int) from rfl, Xl])) (zp (.pN (k % 13 + m % 13) (Pure1.cast (v' := (.int .i64 ((((k) % 13) + ((m) % 13) : Nat) : Int))) (.add rfl rfl) (by show Value.int _ _ = Value.int _ _; congr 1))) (za rfl (za rfl (zn (zs (zS (zm rfl (zm rfl (zp (.pN (k / 13 + m / 13 + (k % 13 + m % 13)) (Pure1.cast (v' := (.int .i64 (((k / 13 + m / 13) + (k % 13 + m % 13) : Nat) : Int))) (.add rfl rfl) (by show Value.int _ _ = Value.int _ _; congr 1))) (zp (.gtr rfl rfl) ?_))))))))))))))))))))); clear h; intro a w h
     refine Zl h (fun hc47 h => (by exfalso; have := of_decide_eq_true hc47; omega)) (fun hc47 h => ?_)
     refine wpList_nil ?_
     refine cW ?_
     refine Zk h rfl ?_
     refine gC h (zk (yD Za [0, 1, 2, 3, 4, 5, 6, 7, 8, 9, 10, 11, 12, 13, 14, 15, 16, 17, 18, 19, 20, 21, 22, 23] (Zb kk) (ym rfl rfl (ym rfl rfl (yp rfl (.pN (13 * (k / 13 + m / 13)) (.mul rfl rfl)) (ym rfl rfl (yp rfl (.pN ((13 * (k / 13 + m / 13)) + (k % 13 + m % 13)) (.add rfl rfl)) (ym rfl rfl (ym rfl rfl (yp rfl (.pN (13 * (k / 13 + m / 13)) (.mul rfl rfl)) (ym rfl rfl (yp rfl (.pN ((13 * (k / 13 + m / 13)) + (k % 13 + m % 13)) (.add rfl rfl)) (yp rfl (.indexAddr rfl rfl (Zbp _ _ _ _ _ oo)) (yd rfl rfl mm isAgg56 sizeOf56 (Zbc (k := 3) (fun _ => rfl) ((fun _ => rfl)) l2 FT0 ((13 * (k / 13 + m / 13)) + (k % 13 + m % 13)) oo) ?_)))))))))))))); clear h
     refine ym rfl rfl (ym rfl rfl (yp rfl (.indexAddr rfl rfl (Zbp _ _ _ _ _ oo)) ?_))
     refine Zm rfl kk rfl mm (cells_lt (k := 3) dd (fun _ => rfl) la k oo) isAgg56 sizeOf56 (Qb (k := 3) (fun _ => rfl) ((fun _ => rfl)) la FT0 k oo) (.inl rfl) dd ?_
     refine ym rfl rfl (ym rfl rfl (yp rfl (.indexAddr rfl rfl (Zbp _ _ _ _ _ oo)) ?_))
     refine Zm rfl kk rfl mm (cells_lt (k := 3) dd (fun _ => rfl) lb m oo) isAgg56 sizeOf56 (Qb (k := 3) (fun _ => rfl) ((fun _ => rfl)) lb FT0 m oo) (.inl rfl) dd ?_
     refine yf [_, _] rfl rfl call70 (Zb3 _ _ _ _ _ _ _ _ ((la.getD k FT0).x) ((lb.getD m FT0).x) oo oo) ?_; rintro v69 Ψ69 ⟨ad69, c69, bd69, d69, rfl, hle69, hlf69, rfl⟩
     have hl69 := Zu ((la.getD k FT0).x) ((lb.getD m FT0).x)
     refine yf [_, _] rfl rfl call65 (Zhj _ _ _ _ _ _ _ _ ((l2.getD ((13 * (k / 13 + m / 13)) + (k % 13 + m % 13)) FT0).x) (((la.getD k FT0).x) * ((lb.getD m FT0).x)) oo oo) ?_; rintro v70 Ψ70 ⟨ad70, c70, bd70, d70, rfl, hle70, hlf70, rfl⟩
     have hl70 := Qs ((l2.getD ((13 * (k / 13 + m / 13)) + (k % 13 + m % 13)) FT0).x) (((la.getD k FT0).x) * ((lb.getD m FT0).x))
     refine yp rfl (.indexAddr rfl rfl (Zbp _ _ _ _ _ oo)) ?_
     refine Za1 (b := b11) (cs := (cellsOf Yq l2).toArray) (cs' := (cellsOf Yq (l2.set ((13 * (k / 13 + m / 13)) + (k % 13 + m % 13)) (FT.mk (((l2.getD ((13 * (k / 13 + m / 13)) + (k % 13 + m % 13)) FT0).x) + (((la.getD k FT0).x) * ((lb.getD m FT0).x))) ad70 c70 bd70 d70 hle70 hlf70))).toArray) (v := Yq (FT.mk (((l2.getD ((13 * (k / 13 + m / 13)) + (k % 13 + m % 13)) FT0).x) + (((la.getD k FT0).x) * ((lb.getD m FT0).x))) ad70 c70 bd70 d70 hle70 hlf70)) rfl kk rfl rfl (Vh (k := 3) (fun _ => rfl) l2 ((13 * (k / 13 + m / 13)) + (k % 13 + m % 13)) oo (FT.mk (((l2.getD ((13 * (k / 13 + m / 13)) + (k % 13 + m % 13)) FT0).x) + (((la.getD k FT0).x) * ((lb.getD m FT0).x))) ad70 c70 bd70 d70 hle70 hlf70)) uu sizeOf56 rfl (Gk (k := 3) (fun _ => rfl) l2 ((13 * (k / 13 + m / 13)) + (k % 13 + m % 13)) oo) rfl ?_
     refine yn (zr (zm rfl (zp (.pN (m + 1) (.add rfl rfl)) (za rfl (zn ?_))))); intro a w h
     replace h := h.derive (R := AllF (l2.set ((13 * (k / 13 + m / 13)) + (k % 13 + m % 13)) (FT.mk (((l2.getD ((13 * (k / 13 + m / 13)) + (k % 13 + m % 13)) FT0).x) + (((la.getD k FT0).x) * ((lb.getD m FT0).x))) ad70 c70 bd70 d70 hle70 hlf70))) (fun X hX => AllF.set (hX _ mm) (hX _ mm) (hX _ mm))
     have hx2 : Eqv (pol (xs (l2.set ((13 * (k / 13 + m / 13)) + (k % 13 + m % 13)) (FT.mk (((l2.getD ((13 * (k / 13 + m / 13)) + (k % 13 + m % 13)) FT0).x) + (((la.getD k FT0).x) * ((lb.getD m FT0).x))) ad70 c70 bd70 d70 hle70 hlf70)))) (qM (xs la) (xs lb) k (m + 1)) := by
      have h9 := Qds (k := k) (m := m) ha.len hb.len (by rw [Zid]; exact hln2) hlt_k hlt_m rfl rfl oo hel2
      rw [Zg3]; rw [← Kj, ← Kj, ← Kj] at h9; exact h9
     exact ⟨m + 1, ⟨oo, l2.set ((13 * (k / 13 + m / 13)) + (k % 13 + m % 13)) (FT.mk (((l2.getD ((13 * (k / 13 + m / 13)) + (k % 13 + m % 13)) FT0).x) + (((la.getD k FT0).x) * ((lb.getD m FT0).x))) ad70 c70 bd70 d70 hle70 hlf70), ⟨by rw [List.length_set]; exact hln2, hx2⟩, by exact (h.factsSub (by simp)).sub sA⟩, oo⟩
  ·
   skip
   have heq_m : 169 = m := dF hc17
   subst heq_m
   refine gC h (ze (zr (zm rfl (zp (.pN (k + 1) (.add rfl rfl)) (za rfl (zn ?_)))))); clear h; intro a w h
   exact ⟨k + 1, ⟨oo, l2, ⟨hln2, qM_row ha.len hb.len hlt_k hel2⟩, by exact (h.factsSub (by simp)).sub sA⟩, oo⟩
 ·
  skip
  have heq_k : 169 = k := dF hc13
  subst heq_k
  replace h := h.shareAll hS (cellsOf Yq l) rfl
  refine gC h (ze (zS (zm rfl (za rfl (za rfl (zn (zt ?_))))))); clear h; intro a w h
  refine Qk (Ψ := [Row (some ⟨b11, 0, none⟩) (cellsOf Yq l), AllF l]) h (Jv h rfl (.tmp rfl) (.tmp rfl)) ?_ ss
  have hE := qM_end ha.len hel
  exact ⟨b11, l, rfl, ha.mulP hb hd (by rw [Zid]; exact hln) hE, hE, rfl⟩
theorem Qco (b1 : Nat) (la : List FT) (da Ka : Nat) (ha : Tb da Ka (xs la)) (hda : da ≤ 12) (n : Nat) (hn : n ≤ 12) (hd : n * da ≤ 12) (hk2 : Ka ≤ 10000000) : Ctr Tryz.prog 106 [.slice (some ⟨b1, 0, none⟩) 169 169, .int .i64 ((n : Nat) : Int)] [Row (some ⟨b1, 0, none⟩) (cellsOf Yq la), AllF la] (Qci (n * da) (n * Ka + 4) (Yt (pol (xs la)) n)) := by
 refine fn_intro func106 rfl ntmps106 nb ?_
 intro S w0 a hS h
 refine gC h (zS (za rfl (za rfl (zn (zs (zS (zm rfl (zp (.lss rfl rfl) ?_)))))))); clear h; intro a w h
 refine Zl h (fun hc11 h => (by exfalso; have := of_decide_eq_true hc11; omega)) (fun hc11 h => ?_)
 refine gL h (zm rfl (zq 12 rfl rfl (.move rfl) (zq 12 rfl rfl (.gtr rfl rfl) ?_))); clear h; intro a w h
 refine Zl h (fun hc14 h => (by exfalso; have := of_decide_eq_true hc14; omega)) (fun hc14 h => ?_)
 refine gL h (zp (.pickF rfl rfl) (zn ?_)); clear h; intro a w h
 refine cW ?_
 refine Zk h rfl ?_
 refine gC h (zk (zS (zf [] rfl call163 (C_tOne) ?_))); rintro v17 Ψ17 ⟨b17, l17, rfl, ht17, he17, rfl⟩
 refine za rfl (zn (zs (zS (za rfl (zn (zb ?_)))))); intro a w h
 refine Zg (fun (i : Nat) a w => i ≤ n ∧ ∃ b l, ((Tb (i * da) (i * Ka + 4) (xs l) ∧ Eqv (pol (xs l)) (Yt (pol (xs la)) i))) ∧ St 35 S w0 [(0, .slice (some ⟨b1, 0, none⟩) 169 169), (1, nI n), (6, .slice (some ⟨b, 0, none⟩) 169 169), (7, nI i)] [] [Row (some ⟨b, 0, none⟩) (cellsOf Yq l), AllF l, Row (some ⟨b1, 0, none⟩) (cellsOf Yq la), AllF la] a w) (fun i => n - i) 0 (⟨Nat.zero_le _, b17, l17, ⟨by rw [Nat.zero_mul, Nat.zero_mul]; exact ht17, he17⟩, by exact (h.factsSub (by simp)).sub (Zff ⟨rfl, rfl, rfl, rfl, trivial⟩)⟩) ?_; clear h
 rintro i a w ⟨hi_i, b, l, ⟨ht, he⟩, h⟩
 refine gC h (zs (zS (zm rfl (zm rfl (zp (.lss rfl rfl) (zn ?_)))))); clear h; intro a w h
 refine cW ?_
 refine Zc h rfl (fun hc20 => ?_) (fun hc20 => ?_)
 ·
  skip
  have hlt_i : i < n := dT hc20
  have hid : i * da + da ≤ 12 := Nat.le_trans (by rw [← Nat.succ_mul]; exact Nat.mul_le_mul_right da hlt_i) hd
  have hid2 : i * da ≤ 12 := oo
  have hik : i * Ka + 4 ≤ 1000000000 := by have := Nat.mul_le_mul (show i ≤ 12 by omega) hk2; omega
  refine gC h (zk (zs (zb (zS (zm rfl (zm rfl (zf [_, _] rfl call101 (Qcp b l (i * da) (i * Ka + 4) ht hid2 hik b1 la da Ka ha hda oo hid) ?_))))))); rintro v26 Ψ26 ⟨b26, l26, rfl, ht26, he26, rfl⟩
  refine zm rfl (zp (.eX rfl) (zp (.eX rfl) (za rfl (za rfl (zn (zs (zS (zm rfl (zp (.neq rfl rfl) (zn ?_)))))))))); intro a w h
  refine cW ?_
  refine Zc h rfl (fun hc30 => (absurd hc30 dd)) (fun hc30 => ?_)
  refine gC h (zk (zr (zm rfl (za rfl (zn (zr (zm rfl (zp (.pN (i + 1) (.add rfl rfl)) (za rfl (zn ?_)))))))))); clear h; intro a w h
  exact ⟨i + 1, ⟨oo, b26, l26, ⟨by rw [Nat.add_mul, Nat.one_mul, Nat.add_mul, Nat.one_mul]; exact ht26.mono (Nat.le_refl _) oo, he26.trans (he.mul Eqv.rfl')⟩, by exact (h.factsSub (by simp)).sub sA⟩, oo⟩
 ·
  skip
  have heq_i : n = i := dF hc20
  subst heq_i
  refine gC h (ze (zS (zm rfl (za rfl (za rfl (zn (zt ?_))))))); clear h; intro a w h
  refine Qk (Ψ := [Row (some ⟨b, 0, none⟩) (cellsOf Yq l), AllF l]) h (Jv h rfl (.tmp rfl) (.tmp rfl)) ?_ ss
  exact ⟨b, l, rfl, ht, he, rfl⟩
theorem Zs8 (b1 : Nat) (la : List FT) (da Ka : Nat) (ha : Tb da Ka (xs la)) (hda : da ≤ 12) (hka : Ka ≤ 1000000000) (p1 p3 : Option Addr) (p2 p4 : Nat) (q1 q3 : Option Addr) (q2 q4 : Nat) (r1 r3 : Option Addr) (r2 r4 : Nat) (s1 s3 : Option Addr) (s2 s4 : Nat) (t1 t3 : Option Addr) (t2 t4 : Nat) (u1 u3 : Option Addr) (u2 u4 : Nat) (ax bx cx ay dy cy : Rat) (Kx : Nat) (hkax : Qa ax ≤ Kx) (hkbx : Qa bx ≤ Kx) (hkcx : Qa cx ≤ Kx) (hkay : Qa ay ≤ Kx) (hkdy : Qa dy ≤ Kx) (hkcy : Qa cy ≤ Kx) (hp2 : (dg ax.num.natAbs).length ≤ p2) (hp4 : (dg (ax.den - 1)).length ≤ p4) (hq2 : (dg bx.num.natAbs).length ≤ q2) (hq4 : (dg (bx.den - 1)).length ≤ q4) (hr2 : (dg cx.num.natAbs).length ≤ r2) (hr4 : (dg (cx.den - 1)).length ≤ r4) (hs2 : (dg ay.num.natAbs).length ≤ s2) (hs4 : (dg (ay.den - 1)).length ≤ s4) (ht2 : (dg dy.num.natAbs).length ≤ t2) (ht4 : (dg (dy.den - 1)).length ≤ t4) (hu2 : (dg cy.num.natAbs).length ≤ u2) (hu4 : (dg (cy.den - 1)).length ≤ u4) (hkk : Ka ≤ 100000) (hkx : Kx ≤ 10000) : Ctr Tryz.prog 63 [.slice (some ⟨b1, 0, none⟩) 169 169, fV ax p1 p2 p3 p4, fV bx q1 q2 q3 q4, fV cx r1 r2 r3 r4, fV ay s1 s2 s3 s4, fV dy t1 t2 t3 t4, fV cy u1 u2 u3 u4] [Row (some ⟨b1, 0, none⟩) (cellsOf Yq la), AllF la, Row p1 (List.map Zo (dg ax.num.natAbs)), Row p3 (List.map Zo (dg (ax.den - 1))), Row q1 (List.map Zo (dg bx.num.natAbs)), Row q3 (List.map Zo (dg (bx.den - 1))), Row r1 (List.map Zo (dg cx.num.natAbs)), Row r3 (List.map Zo (dg (cx.den - 1))), Row s1 (List.map Zo (dg ay.num.natAbs)), Row s3 (List.map Zo (dg (ay.den - 1))), Row t1 (List.map Zo (dg dy.num.natAbs)), Row t3 (List.map Zo (dg (dy.den - 1))), Row u1 (List.map Zo (dg cy.num.natAbs)), Row u3 (List.map Zo (dg (cy.den - 1)))] (PostT da (169 * KT da Ka Kx + 1) (sbL (ln ax bx cx) (ln ay dy cy) (pol (xs la)))) := by
 refine fn_intro func63 rfl ntmps63 nb ?_
 intro S w0 a hS h
 refine gC h (zS (zx rfl fun b8 => zx rfl fun b9 => zx rfl fun b10 => zx rfl fun b11 => zx rfl fun b12 => zx rfl fun b13 => za rfl (zn (zS ?_)))); clear h; intro a w h
 refine Zh (Js h (vs := []) rfl call105 (Zar) ss dd ?_); clear h; rintro v23 σ23 a w ⟨b23, rfl, rfl⟩ h
 replace h := h.derive (R := AllF (List.replicate 169 FT0)) (fun X hX => AllF.zeros 169 X _)
 replace h := h.shareAll hS (cellsOf Yq (List.replicate 169 FT0)) rfl
 refine gL h (za rfl (zn (zs (zS (za rfl (zn (zb ?_))))))); clear h; intro a w h
 refine Zg (fun (k : Nat) a w => k ≤ 169 ∧ ∃ b l, ((Tb da (k * KT da Ka Kx + 1) (xs l) ∧ Eqv (pol (xs l)) (sbL (ln ax bx cx) (ln ay dy cy) ((pol (xs la)).take k)))) ∧ St 69 S w0 [(0, .slice (some ⟨b1, 0, none⟩) 169 169), (8, pB b8), (9, pB b9), (10, pB b10), (11, pB b11), (12, pB b12), (13, pB b13), (14, .slice none 0 0), (15, .slice (some ⟨b, 0, none⟩) 169 169), (16, nI k)] [(b13, bV (.agg #[.bool (decide (cy.num < 0)), .slice u1 (dg cy.num.natAbs).length u2, .slice u3 (dg (cy.den - 1)).length u4]) 56), (b12, bV (.agg #[.bool (decide (dy.num < 0)), .slice t1 (dg dy.num.natAbs).length t2, .slice t3 (dg (dy.den - 1)).length t4]) 56), (b11, bV (.agg #[.bool (decide (ay.num < 0)), .slice s1 (dg ay.num.natAbs).length s2, .slice s3 (dg (ay.den - 1)).length s4]) 56), (b10, bV (.agg #[.bool (decide (cx.num < 0)), .slice r1 (dg cx.num.natAbs).length r2, .slice r3 (dg (cx.den - 1)).length r4]) 56), (b9, bV (.agg #[.bool (decide (bx.num < 0)), .slice q1 (dg bx.num.natAbs).length q2, .slice q3 (dg (bx.den - 1)).length q4]) 56), (b8, bV (.agg #[.bool (decide (ax.num < 0)), .slice p1 (dg ax.num.natAbs).length p2, .slice p3 (dg (ax.den - 1)).length p4]) 56)] [Row (some ⟨b, 0, none⟩) (cellsOf Yq l), AllF l, Row (some ⟨b1, 0, none⟩) (cellsOf Yq la), AllF la, Row p1 (List.map Zo (dg ax.num.natAbs)), Row p3 (List.map Zo (dg (ax.den - 1))), Row q1 (List.map Zo (dg bx.num.natAbs)), Row q3 (List.map Zo (dg (bx.den - 1))), Row r1 (List.map Zo (dg cx.num.natAbs)), Row r3 (List.map Zo (dg (cx.den - 1))), Row s1 (List.map Zo (dg ay.num.natAbs)), Row s3 (List.map Zo (dg (ay.den - 1))), Row t1 (List.map Zo (dg dy.num.natAbs)), Row t3 (List.map Zo (dg (dy.den - 1))), Row u1 (List.map Zo (dg cy.num.natAbs)), Row u3 (List.map Zo (dg (cy.den - 1)))] a w) (fun k => 169 - k) 0 (⟨Nat.zero_le _, b23, List.replicate 169 FT0, ⟨by rw [Gp, Nat.zero_mul]; exact Tb.zero da, by rw [Gp]; exact fun φ => Jx φ 169⟩, by exact (h.factsSub (by simp)).sub (Zff ⟨rfl, rfl, rfl, rfl, rfl, rfl, rfl, rfl, rfl, rfl, trivial⟩)⟩) ?_; clear h
 rintro k a w ⟨hi_k, b, l, ⟨ht, he⟩, h⟩
 refine gC h (zs (zS (zm rfl (zp (.lss rfl rfl) (zn ?_))))); clear h; intro a w h
 refine cW ?_
 refine Zc h rfl (fun hc25 => ?_) (fun hc25 => ?_)
 ·
  skip
  have hlt_k : k < 169 := dT hc25
  have hn1 := ha.lenl
  have hm1 : la.getD k FT0 ∈ la := getD_mem _ oo
  have hz1 := ha.sizl (k := k) oo
  replace h := h.derive (R := Row (la.getD k FT0).a2 (List.map Zo (dg ((la.getD k FT0).x.den - 1)))) (fun X hX => AllF.get2 (hX _ mm) hm1)
  replace h := h.derive (R := Row (la.getD k FT0).a1 (List.map Zo (dg (la.getD k FT0).x.num.natAbs))) (fun X hX => AllF.get1 (hX _ mm) hm1)
  refine gC h (zk (zs (zb (zs (zS (zm rfl (zm rfl (zp (.indexAddr rfl rfl (Zbp _ _ _ _ _ oo)) (zD rfl mm (cells_lt (k := 3) dd (fun _ => rfl) la k oo) isAgg56 sizeOf56 (Qb (k := 3) (fun _ => rfl) ((fun _ => rfl)) la FT0 k oo) (.inl rfl) ?_)))))))))
  refine zv [_] rfl call86 (Zjp ((la.getD k FT0).x) _ _ _ _) (zp (.eql rfl rfl) ?_); intro a w h
  refine Zl h (fun hc33 h => ?_) (fun hc33 h => ?_)
  ·
   skip
   have hsk : ((xs la).getD k 0) = 0 := by rw [Qdd] at hc33; rw [← Kj]; exact of_decide_eq_true hc33
   refine wpList_nil ?_
   refine cW ?_
   refine Zp h rfl ?_
   refine gC h (ze (zr (zm rfl (zp (.pN (k + 1) (.add rfl rfl)) (za rfl (zn ?_)))))); clear h; intro a w h
   exact ⟨k + 1, ⟨oo, b, l, ⟨ht.mono (Nat.le_refl _) (by rw [Nat.add_mul]; omega), he.trans (Zzv (by rw [ha.len]; exact hlt_k) hsk).symm⟩, by exact (h.factsSub (by simp)).sub sA⟩, oo⟩
  ·
   skip
   have hne1 : (la.getD k FT0).x ≠ 0 := by rw [Qdd] at hc33; exact of_decide_eq_false hc33
   have hg1 := ha.degl hlt_k hne1
   have hq1 := Nat.mod_lt k (show 0 < 13 by decide)
   have hb1 : (k / 13) * (3 * Kx + 4) ≤ 12 * 30004 := Nat.mul_le_mul oo oo
   have hb2 : (k % 13) * (3 * Kx + 4) ≤ 12 * 30004 := Nat.mul_le_mul oo oo
   have hb3 : k * KT da Ka Kx ≤ 169 * (100000 + 12 * 30004 + 20) := Nat.mul_le_mul oo (by have := Nat.mul_le_mul hda (show 3 * Kx + 4 ≤ 30004 by omega); unfold KT; omega)
   have hb4 : (k / 13) * (3 * Kx + 4) + (k % 13) * (3 * Kx + 4) ≤ da * (3 * Kx + 4) := by rw [← Nat.add_mul]; exact Nat.mul_le_mul_right _ hg1
   refine wpList_nil ?_
   refine cW ?_
   refine Zk h rfl ?_
   refine gC h (zk (zS (zd rfl mr isAgg56 sizeOf56 Zi ?_)))
   refine zd rfl mr isAgg56 sizeOf56 Zi ?_
   refine zd rfl mr isAgg56 sizeOf56 Zi ?_
   refine zf [_, _, _] rfl call125 (Zyk _ _ _ _ _ _ _ _ _ _ _ _ ax bx cx Kx hkax hkbx hkcx hp2 hp4 hq2 hq4 hr2 hr4) ?_; rintro v38 Ψ38 ⟨b38, l38, rfl, ht38, he38, rfl⟩
   refine zm rfl (zp (Pure1.cast (v' := .int .i64 (((k) / 13 : Nat) : Int)) (.binOp rfl rfl (fun _ => Ys _ _ _ _ _ dd)) (by rw [show (13 : Int) = ((13 : Nat) : Int) from rfl, Xp, wrap_i64 _ oo oo])) (zf [_, _] rfl call106 (Qco b38 l38 1 (3 * Kx + 4) ht38 dd (k / 13) oo oo oo) ?_)); rintro v41 Ψ41 ⟨b41, l41, rfl, ht41, he41, rfl⟩ a w h
   rw [Nat.mul_one] at ht41
   refine gL h (zm rfl (zp (.eX rfl) (zp (.eX rfl) (za rfl (za rfl (zn (zS (zd rfl mr isAgg56 sizeOf56 Zi ?_))))))))
   refine zd rfl mr isAgg56 sizeOf56 Zi ?_
   refine zd rfl mr isAgg56 sizeOf56 Zi ?_
   refine zf [_, _, _] rfl call125 (Zyk _ _ _ _ _ _ _ _ _ _ _ _ ay dy cy Kx hkay hkdy hkcy hs2 hs4 ht2 ht4 hu2 hu4) ?_; rintro v48 Ψ48 ⟨b48, l48, rfl, ht48, he48, rfl⟩
   refine zm rfl (zp (Pure1.cast (v' := .int .i64 (((k) % 13 : Nat) : Int)) (.binOp rfl rfl (fun _ => Ye _ _ _ _ _ dd)) (by rw [show (13 : Int) = ((13 : Nat) : Int) from rfl, Xl])) (zf [_, _] rfl call106 (Qco b48 l48 1 (3 * Kx + 4) ht48 dd (k % 13) oo oo oo) ?_)); rintro v51 Ψ51 ⟨b51, l51, rfl, ht51, he51, rfl⟩ a w h
   rw [Nat.mul_one] at ht51
   refine gL h (zm rfl (zp (.eX rfl) (zp (.eX rfl) (za rfl (za rfl (zn (zS (zm rfl (zm rfl (zf [_, _] rfl call101 (Qcp b41 l41 _ _ ht41 oo oo b51 l51 _ _ ht51 oo oo oo) ?_)))))))))); rintro v57 Ψ57 ⟨b57, l57, rfl, ht57, he57, rfl⟩
   refine zm rfl (zp (.eX rfl) (zp (.eX rfl) (za rfl (za rfl (zn (zr (zm rfl (zm rfl (zm rfl (zm rfl (zp (.indexAddr rfl rfl (Zbp _ _ _ _ _ oo)) (zD rfl mm (cells_lt (k := 3) dd (fun _ => rfl) la k oo) isAgg56 sizeOf56 (Qb (k := 3) (fun _ => rfl) ((fun _ => rfl)) la FT0 k oo) (.inl rfl) ?_))))))))))))
   refine zf [_, _] rfl call110 (Qbk b57 l57 _ _ ht57 oo oo _ _ _ _ Ka (la.getD k FT0).x hz1 oo) ?_; rintro v66 Ψ66 ⟨b66, l66, rfl, ht66, he66, rfl⟩
   refine zf [_, _] rfl call102 (C_tAdd b l da (k * KT da Ka Kx + 1) ht hda oo b66 l66 _ _ ht66 oo oo) ?_; rintro v67 Ψ67 ⟨b67, l67, rfl, ht67, he67, rfl⟩
   refine za rfl (zn (zr (zm rfl (zp (.pN (k + 1) (.add rfl rfl)) (za rfl (zn ?_)))))); intro a w h
   exact ⟨k + 1, ⟨oo, b67, l67, ⟨ht67.mono (Nat.max_le.2 ⟨Nat.le_refl _, hg1⟩) (by rw [Nat.add_mul, Nat.one_mul]; have : KT da Ka Kx = Ka + da * (3 * Kx + 4) + 20 := rfl; omega), he67.trans ((he.append (he66.trans ((he57.trans ((he41.trans (he38.pow _)).mul (he51.trans (he48.pow _)))).scale _))).trans (by rw [Kj]; exact (Zzu (by rw [ha.len]; exact hlt_k)).symm))⟩, by exact (h.factsSub (by simp)).sub (Zff ⟨rfl, rfl, rfl, rfl, rfl, rfl, rfl, rfl, rfl, rfl, trivial⟩)⟩, oo⟩
 ·
  skip
  have heq_k : 169 = k := dF hc25
  subst heq_k
  refine gC h (ze (zS (zm rfl (za rfl (zn (zt ?_)))))); clear h; intro a w h
  refine Qk (Ψ := [Row (some ⟨b, 0, none⟩) (cellsOf Yq l), AllF l]) h (Zd h rfl (.tmp rfl)) ?_ ss
  exact ⟨b, l, rfl, ht, by rw [← Qdi ha.len]; exact he, rfl⟩
structure TF where
 i : Int
 j : Int
 f : FT
def TF0 : TF := ⟨0, 0, FT0⟩
abbrev Zbi (t : TF) : Value := .agg #[.int .i64 t.i, .int .i64 t.j, .bool (decide (t.f.x.num < 0)), .slice t.f.a1 (dg t.f.x.num.natAbs).length t.f.c1, .slice t.f.a2 (dg (t.f.x.den - 1)).length t.f.c2]
def tmF (t : TF) : Tm := ⟨t.i.toNat, t.j.toNat, t.f.x⟩
def OkIJ (t : TF) : Prop := (-9223372036854775808 ≤ t.i ∧ t.i ≤ 9223372036854775807) ∧ (-9223372036854775808 ≤ t.j ∧ t.j ≤ 9223372036854775807)
def erF (t : TF) : Int := if t.i < 0 ∨ t.j < 0 then 1 else if t.i > 12 ∨ t.j > 12 ∨ t.i + t.j > 12 then 9 else 0
def erL : List TF → Int
 | [] => 0
 | t :: l => if erF t = 0 then erL l else erF t
theorem Zen (l : List TF) (k : Nat) (h : k < l.length) : erL (l.drop k) = if erF (l.getD k TF0) = 0 then erL (l.drop (k + 1)) else erF (l.getD k TF0) := by
 rw [List.drop_eq_getElem_cons h, erL]; simp [List.getD, h]
theorem takeTF (l : List TF) {k : Nat} (h : k < l.length) : l.take (k + 1) = l.take k ++ [l.getD k TF0] := by
 rw [List.take_add_one, List.getElem?_eq_getElem h]; simp [List.getD, h]
def PostTO (l : List TF) (v : Value) (Ψ : List Qh) : Prop := ∃ b lo, v = .tuple #[.slice (some ⟨b, 0, none⟩) 169 169, .int .i64 (erL l)] ∧ lo.length = 169 ∧ Eqv (pol (xs lo)) (if erL l = 0 then l.map tmF else []) ∧ Ψ = [Row (some ⟨b, 0, none⟩) (cellsOf Yq lo), AllF lo]
theorem tf_Hb {K : Nat} {l : List TF} (h : ∀ t ∈ l, Qa t.f.x ≤ K) (n : Nat) (hn : n ≤ l.length) : Hb (l.length * (K + 1) + 1) ((l.take n).map tmF) := by
 refine (Hb.of_KL (k := K) (fun t ht => ?_)).mono (by rw [List.length_map, List.length_take]; have := Nat.mul_le_mul_right (K + 1) (Nat.min_le_right n l.length); omega)
 obtain ⟨s, hs, rfl⟩ := List.mem_map.1 ht
 exact h s (List.mem_of_mem_take hs)
theorem tf_add {l : List TF} {X : List Rat} {k m : Nat} (hk : k < l.length) (hX : X.length = 169) (h1 : 0 ≤ (l.getD k TF0).i) (h2 : 0 ≤ (l.getD k TF0).j) (h3 : (l.getD k TF0).i + (l.getD k TF0).j ≤ 12) (hm : m = 13 * (l.getD k TF0).i.toNat + (l.getD k TF0).j.toNat)
  (h : Eqv (pol X) ((l.take k).map tmF)) : Eqv (pol (X.set m (X.getD m 0 + (l.getD k TF0).f.x))) ((l.take (k + 1)).map tmF) := fun φ => by
 rw [Vw φ _ oo, h φ, takeTF l hk, List.map_append, Jb]
 rw [show m / 13 = (l.getD k TF0).i.toNat by omega, show m % 13 = (l.getD k TF0).j.toNat by omega]
 simp only [List.map_cons, List.map_nil, lin, tmF]; grind
theorem C_tOf (l : List TF) (ad : Option Addr) (c K : Nat) (hn : l.length ≤ 1000) (hK : ∀ t ∈ l, Qa t.f.x ≤ K) (hkk : K ≤ 100000) (hij : ∀ t ∈ l, OkIJ t) : Ctr Tryz.prog 54 [.slice ad l.length c] [Row ad (cellsOf Zbi l), AllF (l.map TF.f)] (PostTO l) := by
 refine fn_intro func54 rfl ntmps54 nb ?_
 intro S w0 a hS h
 refine gC h (zS (za rfl (za rfl (zn (zS ?_))))); clear h; intro a w h
 refine Zh (Js h (vs := []) rfl call105 (Zar) ss dd ?_); clear h; rintro v7 σ7 a w ⟨b7, rfl, rfl⟩ h
 replace h := h.derive (R := AllF (List.replicate 169 FT0)) (fun X hX => AllF.zeros 169 X _)
 refine gL h (za rfl (zn (zs (zS (za rfl (zn (zb ?_))))))); clear h; intro a w h
 refine Zg (fun (i : Nat) a w => i ≤ l.length ∧ ∃ l2, ((l2.length = 169 ∧ erL l = erL (l.drop i) ∧ Eqv (pol (xs l2)) ((l.take i).map tmF))) ∧ St 84 S w0 [(0, .slice ad l.length c), (4, .slice (some ⟨b7, 0, none⟩) 169 169), (5, nI i)] [(b7, .cells (cellsOf Yq (l2)).toArray 56 (0, 0))] [AllF l2, Row ad (cellsOf Zbi l), AllF (l.map TF.f)] a w) (fun i => l.length - i) 0 (⟨Nat.zero_le _, List.replicate 169 FT0, ⟨List.length_replicate, rfl, by rw [Gp]; exact fun φ => Jx φ 169⟩, by exact (h.factsSub (by simp)).sub (Zff ⟨rfl, rfl, rfl, trivial⟩)⟩) ?_; clear h
 rintro i a w ⟨hi_i, l2, ⟨hln, hie, hel⟩, h⟩
 refine gC h (zs (zS (zm rfl (zm rfl (zp (.builtin [_] rfl (Zle _ _ _)) (zp (.lss rfl rfl) (zn ?_))))))); clear h; intro a w h
 refine cW ?_
 refine Zc h rfl (fun hc11 => ?_) (fun hc11 => ?_)
 ·
  skip
  have hlt_i : i < l.length := dT hc11
  obtain ⟨B_ad, O_ad, rfl⟩ := h.row_addr (ad := ad) (M := cellsOf Zbi l) mm (nE 5)
  have hme : l.getD i TF0 ∈ l := getD_mem _ hlt_i
  have hmf : (l.getD i TF0).f ∈ l.map TF.f := List.mem_map_of_mem hme
  have hz1 := hK _ hme
  obtain ⟨⟨hi1, hi2⟩, hj1, hj2⟩ := hij _ hme
  replace h := h.derive (R := Row ((l.getD i TF0).f).a2 (List.map Zo (dg (((l.getD i TF0).f).x.den - 1)))) (fun X hX => AllF.get2 (hX _ mm) hmf)
  replace h := h.derive (R := Row ((l.getD i TF0).f).a1 (List.map Zo (dg ((l.getD i TF0).f).x.num.natAbs))) (fun X hX => AllF.get1 (hX _ mm) hmf)
  replace h := h.derive (R := Row (l2.getD ((13 * (l.getD i TF0).i.toNat + (l.getD i TF0).j.toNat)) FT0).a2 (List.map Zo (dg ((l2.getD ((13 * (l.getD i TF0).i.toNat + (l.getD i TF0).j.toNat)) FT0).x.den - 1)))) (fun X hX => AllF.g2 (hX _ mm) ((13 * (l.getD i TF0).i.toNat + (l.getD i TF0).j.toNat)))
  replace h := h.derive (R := Row (l2.getD ((13 * (l.getD i TF0).i.toNat + (l.getD i TF0).j.toNat)) FT0).a1 (List.map Zo (dg (l2.getD ((13 * (l.getD i TF0).i.toNat + (l.getD i TF0).j.toNat)) FT0).x.num.natAbs))) (fun X hX => AllF.g1 (hX _ mm) ((13 * (l.getD i TF0).i.toNat + (l.getD i TF0).j.toNat)))
  refine gC h (zk (zs (zb (zs (zS (zm rfl (zm rfl (zp (.indexAddr rfl rfl (Zf1 _ _ _ _ _ oo)) (zp (Pure1.cast (v' := .pointer (some ⟨B_ad, O_ad + (i * 5 + 0), none⟩)) (.fA rfl Zh9) (by rw [Nat.add_assoc])) (zD rfl mm (Zbr (k := 5) (enc := Zbi) (fun _ => rfl) l i 0 oo dd) isAgg3 sizeOf3 (Yf (k := 5) (enc := Zbi) (fun _ => rfl) l TF0 i oo false 1 0 _ dd dd rfl) (.inr rfl) ?_))))))))))
  refine zp (.lss rfl rfl) ?_; intro a w h
  refine Zl h (fun hc19 h => ?_) (fun hc19 h => ?_)
  ·
   skip
   have hx19 : (l.getD i TF0).i < 0 := of_decide_eq_true hc19
   have hE : erF (l.getD i TF0) = 1 := if_pos oo
   refine gL h (zm rfl (zo 20 rfl rfl rfl (zo 20 rfl rfl rfl (zo 20 rfl rfl rfl (zo 20 rfl rfl rfl (zo 20 rfl rfl rfl (zo 20 rfl rfl rfl (zp (.pickT rfl rfl) (zn ?_))))))))); clear h; intro a w h
   refine cW ?_
   refine Zp h rfl ?_
   refine wp_seq (wp_region_lit ?_)
   refine Zh (Js h (vs := []) rfl call105 (Zar) ss dd ?_); clear h; rintro v28 σ28 a w ⟨b28, rfl, rfl⟩ h
   replace h := h.derive (R := AllF (List.replicate 169 FT0)) (fun X hX => AllF.zeros 169 X _)
   refine gL h (za rfl (za rfl (zn (zt ?_)))); clear h; intro a w h
   replace h := h.shareAll hS (cellsOf Yq (List.replicate 169 FT0)) rfl
   have her : erL l = 1 := by rw [hie, Zen l i hlt_i, if_neg (by rw [hE]; decide), hE]
   exact Qk (Ψ := [Row (some ⟨b28, 0, none⟩) (cellsOf Yq (List.replicate 169 FT0)), AllF (List.replicate 169 FT0)]) h (Jv h rfl (.tmp rfl) (.tmp rfl)) ⟨b28, _, by rw [her], List.length_replicate, by rw [Gp, if_neg (by rw [her]; decide)]; exact fun φ => Jx φ 169, rfl⟩ ss
  ·
   skip
   have hx19 : ¬ (l.getD i TF0).i < 0 := of_decide_eq_false hc19
   refine gL h (zm rfl (zq 20 rfl rfl (.move rfl) (zq 20 rfl rfl (.move rfl) (zq 20 rfl rfl (.indexAddr rfl rfl (Zf1 _ _ _ _ _ oo)) (zq 20 rfl rfl (Pure1.cast (v' := .pointer (some ⟨B_ad, O_ad + (i * 5 + 1), none⟩)) (.fA rfl Zh8) (by rw [Nat.add_assoc])) ?_))))); clear h; intro a w h
   refine Zv 20 h rfl rfl (Zch h rfl mm (Zbr (k := 5) (enc := Zbi) (fun _ => rfl) l i 1 oo dd) isAgg3 sizeOf3 (Yf (k := 5) (enc := Zbi) (fun _ => rfl) l TF0 i oo false 1 1 _ dd dd rfl) (.inr rfl) dd ?_); clear h; intro a h
   refine gL h (zq 20 rfl rfl (.lss rfl rfl) ?_); clear h; intro a w h
   refine Zl h (fun hc26 h => ?_) (fun hc26 h => ?_)
   ·
    skip
    have hx26 : (l.getD i TF0).j < 0 := of_decide_eq_true hc26
    have hE : erF (l.getD i TF0) = 1 := if_pos oo
    refine gL h (zp (.pickF rfl rfl) (zn ?_)); clear h; intro a w h
    refine cW ?_
    refine Zp h rfl ?_
    refine wp_seq (wp_region_lit ?_)
    refine Zh (Js h (vs := []) rfl call105 (Zar) ss dd ?_); clear h; rintro v28 σ28 a w ⟨b28, rfl, rfl⟩ h
    replace h := h.derive (R := AllF (List.replicate 169 FT0)) (fun X hX => AllF.zeros 169 X _)
    refine gL h (za rfl (za rfl (zn (zt ?_)))); clear h; intro a w h
    replace h := h.shareAll hS (cellsOf Yq (List.replicate 169 FT0)) rfl
    have her : erL l = 1 := by rw [hie, Zen l i hlt_i, if_neg (by rw [hE]; decide), hE]
    exact Qk (Ψ := [Row (some ⟨b28, 0, none⟩) (cellsOf Yq (List.replicate 169 FT0)), AllF (List.replicate 169 FT0)]) h (Jv h rfl (.tmp rfl) (.tmp rfl)) ⟨b28, _, by rw [her], List.length_replicate, by rw [Gp, if_neg (by rw [her]; decide)]; exact fun φ => Jx φ 169, rfl⟩ ss
   ·
    skip
    have hx26 : ¬ (l.getD i TF0).j < 0 := of_decide_eq_false hc26
    refine gL h (zp (.pickF rfl rfl) (zn ?_)); clear h; intro a w h
    refine cW ?_
    refine Zk h rfl ?_
    refine gC h (zk (zs (zs (yD Za [0, 1, 2, 3, 4, 5, 6, 7, 8, 9, 10, 11, 12, 13, 14, 15, 16, 17, 18, 19, 20, 21, 22, 23, 24, 25, 26, 27] (Zb kk) (ym rfl rfl (ym rfl rfl (yp rfl (.indexAddr rfl rfl (Zf1 _ _ _ _ _ oo)) (yp rfl (Pure1.cast (v' := .pointer (some ⟨B_ad, O_ad + (i * 5 + 0), none⟩)) (.fA rfl Zh9) (by rw [Nat.add_assoc])) ?_)))))))); clear h
    refine Zm rfl kk rfl mm (Zbr (k := 5) (enc := Zbi) (fun _ => rfl) l i 0 oo dd) isAgg3 sizeOf3 (Yf (k := 5) (enc := Zbi) (fun _ => rfl) l TF0 i oo false 1 0 _ dd dd rfl) (.inr rfl) dd ?_
    refine yp rfl (.gtr rfl rfl) ?_
    refine Zs (fun hc34  => ?_) (fun hc34  => ?_)
    ·
     skip
     have hx34 : (l.getD i TF0).i > 12 := of_decide_eq_true hc34
     have hE : erF (l.getD i TF0) = 9 := by unfold erF; rw [if_neg oo, if_pos oo]
     refine ym rfl rfl (yo 35 rfl rfl rfl rfl (yo 35 rfl rfl rfl rfl (yo 35 rfl rfl rfl rfl (yo 35 rfl rfl rfl rfl (yo 35 rfl rfl rfl rfl (yo 35 rfl rfl rfl rfl (yp rfl (.pickT rfl rfl) (ym rfl rfl (yo 43 rfl rfl rfl rfl (yo 43 rfl rfl rfl rfl (yo 43 rfl rfl rfl rfl (yo 43 rfl rfl rfl rfl (yo 43 rfl rfl rfl rfl (yo 43 rfl rfl rfl rfl (yo 43 rfl rfl rfl rfl (yo 43 rfl rfl rfl rfl (yo 43 rfl rfl rfl rfl (yo 43 rfl rfl rfl rfl (yo 43 rfl rfl rfl rfl (yo 43 rfl rfl rfl rfl (yp rfl (.pickT rfl rfl) (yn ?_)))))))))))))))))))))); intro a w h
     refine cW ?_
     refine Zp h rfl ?_
     refine wp_seq (wp_region_lit ?_)
     refine Zh (Js h (vs := []) rfl call105 (Zar) ss dd ?_); clear h; rintro v57 σ57 a w ⟨b57, rfl, rfl⟩ h
     replace h := h.derive (R := AllF (List.replicate 169 FT0)) (fun X hX => AllF.zeros 169 X _)
     refine gL h (za rfl (za rfl (zn (zt ?_)))); clear h; intro a w h
     replace h := h.shareAll hS (cellsOf Yq (List.replicate 169 FT0)) rfl
     have her : erL l = 9 := by rw [hie, Zen l i hlt_i, if_neg (by rw [hE]; decide), hE]
     exact Qk (Ψ := [Row (some ⟨b57, 0, none⟩) (cellsOf Yq (List.replicate 169 FT0)), AllF (List.replicate 169 FT0)]) h (Jv h rfl (.tmp rfl) (.tmp rfl)) ⟨b57, _, by rw [her], List.length_replicate, by rw [Gp, if_neg (by rw [her]; decide)]; exact fun φ => Jx φ 169, rfl⟩ ss
    ·
     skip
     have hx34 : ¬ (l.getD i TF0).i > 12 := of_decide_eq_false hc34
     refine ym rfl rfl (yq rfl rfl rfl (.move rfl) (yq rfl rfl rfl (.move rfl) (yq rfl rfl rfl (.indexAddr rfl rfl (Zf1 _ _ _ _ _ oo)) (yq rfl rfl rfl (Pure1.cast (v' := .pointer (some ⟨B_ad, O_ad + (i * 5 + 1), none⟩)) (.fA rfl Zh8) (by rw [Nat.add_assoc])) ?_))))
     refine Zav rfl rfl rfl kk rfl mm (Zbr (k := 5) (enc := Zbi) (fun _ => rfl) l i 1 oo dd) isAgg3 sizeOf3 (Yf (k := 5) (enc := Zbi) (fun _ => rfl) l TF0 i oo false 1 1 _ dd dd rfl) (.inr rfl) dd ?_
     refine yq rfl rfl rfl (.gtr rfl rfl) ?_
     refine Zs (fun hc41  => ?_) (fun hc41  => ?_)
     ·
      skip
      have hx41 : (l.getD i TF0).j > 12 := of_decide_eq_true hc41
      have hE : erF (l.getD i TF0) = 9 := by unfold erF; rw [if_neg oo, if_pos oo]
      refine yp rfl (.pickF rfl rfl) (ym rfl rfl (yo 43 rfl rfl rfl rfl (yo 43 rfl rfl rfl rfl (yo 43 rfl rfl rfl rfl (yo 43 rfl rfl rfl rfl (yo 43 rfl rfl rfl rfl (yo 43 rfl rfl rfl rfl (yo 43 rfl rfl rfl rfl (yo 43 rfl rfl rfl rfl (yo 43 rfl rfl rfl rfl (yo 43 rfl rfl rfl rfl (yo 43 rfl rfl rfl rfl (yo 43 rfl rfl rfl rfl (yp rfl (.pickT rfl rfl) (yn ?_))))))))))))))); intro a w h
      refine cW ?_
      refine Zp h rfl ?_
      refine wp_seq (wp_region_lit ?_)
      refine Zh (Js h (vs := []) rfl call105 (Zar) ss dd ?_); clear h; rintro v57 σ57 a w ⟨b57, rfl, rfl⟩ h
      replace h := h.derive (R := AllF (List.replicate 169 FT0)) (fun X hX => AllF.zeros 169 X _)
      refine gL h (za rfl (za rfl (zn (zt ?_)))); clear h; intro a w h
      replace h := h.shareAll hS (cellsOf Yq (List.replicate 169 FT0)) rfl
      have her : erL l = 9 := by rw [hie, Zen l i hlt_i, if_neg (by rw [hE]; decide), hE]
      exact Qk (Ψ := [Row (some ⟨b57, 0, none⟩) (cellsOf Yq (List.replicate 169 FT0)), AllF (List.replicate 169 FT0)]) h (Jv h rfl (.tmp rfl) (.tmp rfl)) ⟨b57, _, by rw [her], List.length_replicate, by rw [Gp, if_neg (by rw [her]; decide)]; exact fun φ => Jx φ 169, rfl⟩ ss
     ·
      skip
      have hx41 : ¬ (l.getD i TF0).j > 12 := of_decide_eq_false hc41
      refine yp rfl (.pickF rfl rfl) (ym rfl rfl (yq rfl rfl rfl (.move rfl) (yq rfl rfl rfl (.move rfl) (yq rfl rfl rfl (.indexAddr rfl rfl (Zf1 _ _ _ _ _ oo)) (yq rfl rfl rfl (Pure1.cast (v' := .pointer (some ⟨B_ad, O_ad + (i * 5 + 0), none⟩)) (.fA rfl Zh9) (by rw [Nat.add_assoc])) ?_)))))
      refine Zav rfl rfl rfl kk rfl mm (Zbr (k := 5) (enc := Zbi) (fun _ => rfl) l i 0 oo dd) isAgg3 sizeOf3 (Yf (k := 5) (enc := Zbi) (fun _ => rfl) l TF0 i oo false 1 0 _ dd dd rfl) (.inr rfl) dd ?_
      refine yq rfl rfl rfl (.move rfl) (yq rfl rfl rfl (.move rfl) (yq rfl rfl rfl (.indexAddr rfl rfl (Zf1 _ _ _ _ _ oo)) (yq rfl rfl rfl (Pure1.cast (v' := .pointer (some ⟨B_ad, O_ad + (i * 5 + 1), none⟩)) (.fA rfl Zh8) (by rw [Nat.add_assoc])) ?_)))
      refine Zav rfl rfl rfl kk rfl mm (Zbr (k := 5) (enc := Zbi) (fun _ => rfl) l i 1 oo dd) isAgg3 sizeOf3 (Yf (k := 5) (enc := Zbi) (fun _ => rfl) l TF0 i oo false 1 1 _ dd dd rfl) (.inr rfl) dd ?_
      refine yq rfl rfl rfl (.add rfl rfl) (yq rfl rfl rfl (.gtr rfl rfl) ?_)
      refine Zs (fun hc55  => ?_) (fun hc55  => ?_)
      ·
       skip
       have hx55 : (l.getD i TF0).i + (l.getD i TF0).j > 12 := of_decide_eq_true hc55
       have hE : erF (l.getD i TF0) = 9 := by unfold erF; rw [if_neg oo, if_pos oo]
       refine yp rfl (.pickF rfl rfl) (yn ?_); intro a w h
       refine cW ?_
       refine Zp h rfl ?_
       refine wp_seq (wp_region_lit ?_)
       refine Zh (Js h (vs := []) rfl call105 (Zar) ss dd ?_); clear h; rintro v57 σ57 a w ⟨b57, rfl, rfl⟩ h
       replace h := h.derive (R := AllF (List.replicate 169 FT0)) (fun X hX => AllF.zeros 169 X _)
       refine gL h (za rfl (za rfl (zn (zt ?_)))); clear h; intro a w h
       replace h := h.shareAll hS (cellsOf Yq (List.replicate 169 FT0)) rfl
       have her : erL l = 9 := by rw [hie, Zen l i hlt_i, if_neg (by rw [hE]; decide), hE]
       exact Qk (Ψ := [Row (some ⟨b57, 0, none⟩) (cellsOf Yq (List.replicate 169 FT0)), AllF (List.replicate 169 FT0)]) h (Jv h rfl (.tmp rfl) (.tmp rfl)) ⟨b57, _, by rw [her], List.length_replicate, by rw [Gp, if_neg (by rw [her]; decide)]; exact fun φ => Jx φ 169, rfl⟩ ss
      ·
       skip
       have hx55 : ¬ (l.getD i TF0).i + (l.getD i TF0).j > 12 := of_decide_eq_false hc55
       have hE : erF (l.getD i TF0) = 0 := by unfold erF; rw [if_neg oo, if_neg oo]
       have hn2 : l2.length = 169 := hln
       have hm2 : l2.getD (13 * (l.getD i TF0).i.toNat + (l.getD i TF0).j.toNat) FT0 ∈ l2 := getD_mem _ oo
       have hz2 : Qa (l2.getD (13 * (l.getD i TF0).i.toNat + (l.getD i TF0).j.toNat) FT0).x ≤ l.length * (K + 1) + 1 := by rw [Kj]; exact Zwb (Hb.of_eqv (tf_Hb hK i oo) hel) (by rw [Zid]; omega)
       have hlk : l.length * (K + 1) ≤ 1000 * 100001 := Nat.mul_le_mul hn oo
       refine yp rfl (.pickF rfl rfl) (yn ?_); intro a w h
       refine cW ?_
       refine Zk h rfl ?_
       refine gC h (zk (zs (yD Za [0, 1, 2, 3, 4, 5, 6, 7, 8, 9, 10, 11, 12] (Zb kk) (ym rfl rfl (ym rfl rfl (yp rfl (.indexAddr rfl rfl (Zf1 _ _ _ _ _ oo)) (yp rfl (Pure1.cast (v' := .pointer (some ⟨B_ad, O_ad + (i * 5 + 0), none⟩)) (.fA rfl Zh9) (by rw [Nat.add_assoc])) ?_))))))); clear h
       refine Zm rfl kk rfl mm (Zbr (k := 5) (enc := Zbi) (fun _ => rfl) l i 0 oo dd) isAgg3 sizeOf3 (Yf (k := 5) (enc := Zbi) (fun _ => rfl) l TF0 i oo false 1 0 _ dd dd rfl) (.inr rfl) dd ?_
       refine yp rfl (.pO (13 * (l.getD i TF0).i.toNat) (.mul rfl rfl)) (ym rfl rfl (ym rfl rfl (yp rfl (.indexAddr rfl rfl (Zf1 _ _ _ _ _ oo)) (yp rfl (Pure1.cast (v' := .pointer (some ⟨B_ad, O_ad + (i * 5 + 1), none⟩)) (.fA rfl Zh8) (by rw [Nat.add_assoc])) ?_))))
       refine Zm rfl kk rfl mm (Zbr (k := 5) (enc := Zbi) (fun _ => rfl) l i 1 oo dd) isAgg3 sizeOf3 (Yf (k := 5) (enc := Zbi) (fun _ => rfl) l TF0 i oo false 1 1 _ dd dd rfl) (.inr rfl) dd ?_
       refine yp rfl (.pO (13 * (l.getD i TF0).i.toNat + (l.getD i TF0).j.toNat) (.add rfl rfl)) (yp rfl (.assign rfl) (yn (yD Za [0, 1, 2, 3, 4, 5, 6, 7, 8, 9, 10, 11, 12, 13] (Zb kk) (ym rfl rfl (ym rfl rfl (ym rfl rfl (ym rfl rfl (yp rfl (.indexAddr rfl rfl (Zbp _ _ _ _ _ oo)) (yd rfl rfl mm isAgg56 sizeOf56 (Zbc (k := 3) (fun _ => rfl) ((fun _ => rfl)) l2 FT0 (13 * (l.getD i TF0).i.toNat + (l.getD i TF0).j.toNat) oo) ?_)))))))))
       refine ym rfl rfl (ym rfl rfl (yp rfl (.indexAddr rfl rfl (Zf1 _ _ _ _ _ oo)) (yp rfl (Pure1.cast (v' := .pointer (some ⟨B_ad, O_ad + (i * 5 + 2), none⟩)) (.fA rfl Qay) (by rw [Nat.add_assoc])) ?_)))
       refine Zm rfl kk rfl mm (Zbr (k := 5) (enc := Zbi) (fun _ => rfl) l i 2 oo dd) isAgg56 sizeOf56 (Yf (k := 5) (enc := Zbi) (fun _ => rfl) l TF0 i oo true 3 2 _ dd dd rfl) (.inl rfl) dd ?_
       refine yf [_, _] rfl rfl call65 (Zhj _ _ _ _ _ _ _ _ ((l2.getD (13 * (l.getD i TF0).i.toNat + (l.getD i TF0).j.toNat) FT0).x) ((l.getD i TF0).f.x) oo oo) ?_; rintro v81 Ψ81 ⟨ad81, c81, bd81, d81, rfl, hle81, hlf81, rfl⟩
       have hl81 := Qs ((l2.getD (13 * (l.getD i TF0).i.toNat + (l.getD i TF0).j.toNat) FT0).x) ((l.getD i TF0).f.x)
       refine yp rfl (.indexAddr rfl rfl (Zbp _ _ _ _ _ oo)) ?_
       refine Za1 (b := b7) (cs := (cellsOf Yq l2).toArray) (cs' := (cellsOf Yq (l2.set (13 * (l.getD i TF0).i.toNat + (l.getD i TF0).j.toNat) (FT.mk (((l2.getD (13 * (l.getD i TF0).i.toNat + (l.getD i TF0).j.toNat) FT0).x) + ((l.getD i TF0).f.x)) ad81 c81 bd81 d81 hle81 hlf81))).toArray) (v := Yq (FT.mk (((l2.getD (13 * (l.getD i TF0).i.toNat + (l.getD i TF0).j.toNat) FT0).x) + ((l.getD i TF0).f.x)) ad81 c81 bd81 d81 hle81 hlf81)) rfl kk rfl rfl (Vh (k := 3) (fun _ => rfl) l2 (13 * (l.getD i TF0).i.toNat + (l.getD i TF0).j.toNat) oo (FT.mk (((l2.getD (13 * (l.getD i TF0).i.toNat + (l.getD i TF0).j.toNat) FT0).x) + ((l.getD i TF0).f.x)) ad81 c81 bd81 d81 hle81 hlf81)) uu sizeOf56 rfl (Gk (k := 3) (fun _ => rfl) l2 (13 * (l.getD i TF0).i.toNat + (l.getD i TF0).j.toNat) oo) rfl ?_
       refine yn (zr (zm rfl (zp (.pN (i + 1) (.add rfl rfl)) (za rfl (zn ?_))))); intro a w h
       replace h := h.derive (R := AllF (l2.set (13 * (l.getD i TF0).i.toNat + (l.getD i TF0).j.toNat) (FT.mk (((l2.getD (13 * (l.getD i TF0).i.toNat + (l.getD i TF0).j.toNat) FT0).x) + ((l.getD i TF0).f.x)) ad81 c81 bd81 d81 hle81 hlf81))) (fun X hX => AllF.set (hX _ mm) (hX _ mm) (hX _ mm))
       have hx2 : Eqv (pol (xs (l2.set (13 * (l.getD i TF0).i.toNat + (l.getD i TF0).j.toNat) (FT.mk (((l2.getD (13 * (l.getD i TF0).i.toNat + (l.getD i TF0).j.toNat) FT0).x) + ((l.getD i TF0).f.x)) ad81 c81 bd81 d81 hle81 hlf81)))) ((l.take (i + 1)).map tmF) := by
        have h9 := tf_add hlt_i (by rw [Zid]; exact hln) oo oo oo rfl hel
        rw [← Kj] at h9; rw [Zg3]; exact h9
       exact ⟨i + 1, ⟨oo, l2.set (13 * (l.getD i TF0).i.toNat + (l.getD i TF0).j.toNat) (FT.mk (((l2.getD (13 * (l.getD i TF0).i.toNat + (l.getD i TF0).j.toNat) FT0).x) + ((l.getD i TF0).f.x)) ad81 c81 bd81 d81 hle81 hlf81), ⟨by rw [List.length_set]; exact hln, by rw [hie, Zen l i hlt_i, if_pos hE], hx2⟩, by exact (h.factsSub (by simp)).sub sA⟩, oo⟩
 ·
  skip
  have heq_i : l.length = i := dF hc11
  subst heq_i
  replace h := h.shareAll hS (cellsOf Yq l2) rfl
  refine gC h (ze (zS (zm rfl (za rfl (za rfl (zn (zt ?_))))))); clear h; intro a w h
  rw [List.drop_length, show erL [] = 0 from rfl] at hie
  rw [List.take_length] at hel
  exact Qk (Ψ := [Row (some ⟨b7, 0, none⟩) (cellsOf Yq l2), AllF l2]) h (Jv h rfl (.tmp rfl) (.tmp rfl)) ⟨b7, _, by rw [hie], hln, by rw [if_pos hie]; exact hel, rfl⟩ ss
end
section
theorem Zn9 (x0 : Int) (x1 : Int) (x2_0 : Value) (x2_1 : Value) (x2_2 : Value) (w : World) : (Instr.build 105 [(0, .int .i64 x0), (1, .int .i64 x1), (2, .agg #[x2_0, x2_1, x2_2])].toArray).run Tryz.prog w = .ok (.agg #[.int .i64 x0, .int .i64 x1, x2_0, x2_1, x2_2]) w := by simp [go_sem]
theorem Zuv (x0_0 : Value) (x0_1 : Value) (x0_2 : Value) (x0_3 : Value) (x0_4 : Value) (w : World) : (Instr.buildSlice 102 1 [(0, .agg #[x0_0, x0_1, x0_2, x0_3, x0_4])].toArray).run Tryz.prog w = .ok (.slice (some ⟨w.heap.size, 0, none⟩) 1 1) (w.alloc (.cells #[x0_0, x0_1, x0_2, x0_3, x0_4] 105 (0, 0))) := by
 simp [go_sem]
def t3 (t : TF) : Int × Int × Rat := (t.i, t.j, t.f.x)
def tzB (d : Nat) (t : Ti) : Int × Int × Rat := (((brI d t : Nat) : Int), ((brJ d t : Nat) : Int), qv t.n t.d)
def tzI (t : Ti) : Int × Int × Rat := (t.i, t.j, qv t.n t.d)
def er3 (t : Int × Int × Rat) : Int := if t.1 < 0 ∨ t.2.1 < 0 then 1 else if t.1 > 12 ∨ t.2.1 > 12 ∨ t.1 + t.2.1 > 12 then 9 else 0
def erT : List (Int × Int × Rat) → Int
 | [] => 0
 | t :: l => if er3 t = 0 then erT l else er3 t
def tm3 (t : Int × Int × Rat) : Tm := ⟨t.1.toNat, t.2.1.toNat, t.2.2⟩
theorem Zxr : ∀ l : List TF, erL l = erT (l.map t3)
 | [] => rfl
 | t :: l => by rw [List.map_cons, erL, erT, Zxr l]; rfl
theorem tmF_t3 (l : List TF) : l.map tmF = (l.map t3).map tm3 := by rw [List.map_map]; rfl
def Qe3 (T : List (Int × Int × Rat)) (v : Value) (Ψ : List Qh) : Prop := ∃ b lo, v = .tuple #[.slice (some ⟨b, 0, none⟩) 169 169, .int .i64 (erT T)] ∧ lo.length = 169 ∧ Eqv (pol (xs lo)) (if erT T = 0 then T.map tm3 else []) ∧ Ψ = [Row (some ⟨b, 0, none⟩) (cellsOf Yq lo), AllF lo]
theorem Zv0 {W : List TF} {l : List Ti} {g : Ti → Int × Int × Rat} (h : W.map t3 = l.map g) {t : TF} (ht : t ∈ W) : ∃ s ∈ l, g s = t3 t := by
 have h1 : t3 t ∈ l.map g := by rw [← h]; exact List.mem_map_of_mem ht
 obtain ⟨s, hs, e⟩ := List.mem_map.1 h1
 exact ⟨s, hs, e⟩
theorem ref_K {W : List TF} {l : List Ti} {g : Ti → Int × Int × Rat} (h : W.map t3 = l.map g) (hok : ∀ t ∈ l, OkT t) (hg : ∀ s, (g s).2.2 = qv s.n s.d := by exact fun _ => rfl) : ∀ t ∈ W, Qa t.f.x ≤ 4 := fun t ht => by
 obtain ⟨s, hs, e⟩ := Zv0 h ht
 have e2 : t.f.x = qv s.n s.d := by rw [← hg s, e]; rfl
 rw [e2]; exact Zek (hok s hs).2.2
theorem ref_ij {W : List TF} {l : List Ti} {g : Ti → Int × Int × Rat} (h : W.map t3 = l.map g) (hg : ∀ s ∈ l, (-9223372036854775808 ≤ (g s).1 ∧ (g s).1 ≤ 9223372036854775807) ∧ (-9223372036854775808 ≤ (g s).2.1 ∧ (g s).2.1 ≤ 9223372036854775807)) : ∀ t ∈ W, OkIJ t := fun t ht => by
 obtain ⟨s, hs, e⟩ := Zv0 h ht
 have := hg s hs
 rw [e] at this; exact this
theorem okB_ij {d : Nat} (hd : d ≤ 12) (t : Ti) : (-9223372036854775808 ≤ (tzB d t).1 ∧ (tzB d t).1 ≤ 9223372036854775807) ∧ (-9223372036854775808 ≤ (tzB d t).2.1 ∧ (tzB d t).2.1 ≤ 9223372036854775807) := by
 have h1 := Zs3 d t; have h2 := Zs2 d t
 simp only [tzB]; omega
theorem erT_B {d : Nat} (hd : d ≤ 12) : ∀ l : List Ti, erT (l.map (tzB d)) = 0
 | [] => rfl
 | t :: l => by
  have h1 := Zs3 d t; have h2 := Zs2 d t
  rw [List.map_cons, erT, if_pos (by unfold er3 tzB; dsimp only; rw [if_neg oo, if_neg oo])]; exact erT_B hd l
theorem tm3_B (d : Nat) (l : List Ti) : (l.map (tzB d)).map tm3 = Xk d l := by
 rw [List.map_map]; unfold Xk
 refine List.map_congr_left (fun t _ => ?_)
 simp only [Function.comp, tm3, tzB, tmB, Int.toNat_natCast]
theorem Zk1 {d : Nat} (hd : d ≤ 12) {l : List Ti} {lo : List FT} (h : Eqv (pol (xs lo)) (if erT (l.map (tzB d)) = 0 then (l.map (tzB d)).map tm3 else [])) : Eqv (pol (xs lo)) (Xk d l) := by
 rwa [if_pos (erT_B hd l), tm3_B] at h
theorem Zq8 {d m : Nat} {l : List Ti} (h : ∀ t ∈ l, OkT t) (hm : l.length ≤ m) (hm2 : m ≤ 100) : Pq d (m * 5 + 1) (Xk d l) := Pq.raw (Zla d l) (Zpk h) (by unfold Xk; rw [List.length_map]; exact hm) hm2
theorem Zv1 {d m : Nat} (hd : d ≤ 12) {l : List Ti} {lo : List FT} (hok : ∀ t ∈ l, OkT t) (hm : l.length ≤ m) (hm2 : m ≤ 100) (hn : lo.length = 169) (he : Eqv (pol (xs lo)) (Xk d l)) : Tb d (m * 5 + 1) (xs lo) :=
 Tb.of_eqv (by rw [Zid]; exact hn) he (Zla d l) (Zq8 hok hm hm2).hgt
theorem Zy1 (l : List Ti) (ad : Option Addr) (c : Nat) (d : Nat) (hd : d ≤ 12) (hok : ∀ t ∈ l, OkT t) (hn : l.length ≤ 1000) : Ctr Tryz.prog 9 [.slice ad l.length c] [Row ad (cellsOf (Zbq d) l)] (Qe3 (l.map (tzB d))) := by
 refine fn_intro func9 rfl ntmps9 nb ?_
 intro S w0 a hS h
 refine gC h (zS (za rfl (za rfl (zn (zS (za rfl (zn (zs (zS (za rfl (zn (zb ?_)))))))))))); clear h; intro a w h
 replace h := h.derive (R := AllF (([] : List TF).map TF.f)) (fun X hX => AllF.nil X _)
 refine Zg (fun (k : Nat) a w => k ≤ l.length ∧ ∃ (W : List TF) (ad1 : Option Addr) (c1 : Nat) (o1 : List (Nat × Obj)), (W.map t3 = (l.take k).map (tzB d) ∧ GrowO 5 105 (.slice ad1 W.length c1) W.length (cellsOf Zbi W) o1) ∧ St 36 S w0 [(0, .slice ad l.length c), (2, .slice none 0 0), (3, .int .i64 0), (4, (.slice ad1 W.length c1)), (5, nI k)] (o1 ++ []) [AllF (W.map TF.f), Row ad (cellsOf (Zbq d) l)] a w) (fun k => l.length - k) 0 (⟨Nat.zero_le _, [], none, 0, [], ⟨rfl, GrowO.nil _ _⟩, by exact (h.factsSub (by simp)).sub (Zff ⟨rfl, rfl, rfl, rfl, rfl, trivial⟩)⟩) ?_; clear h
 rintro k a w ⟨hi_k, W, ad1, c1, o1, ⟨hW, hG1⟩, h⟩
 refine gC h (zs (zS (zm rfl (zm rfl (zp (.builtin [_] rfl (Jy _ _ _)) (zp (.lss rfl rfl) (zn ?_))))))); clear h; intro a w h
 refine cW ?_
 refine Zc h rfl (fun hc9 => ?_) (fun hc9 => ?_)
 ·
  skip
  have hlt_k : k < l.length := dT hc9
  obtain ⟨B_ad, O_ad, rfl⟩ := h.row_addr (ad := ad) (M := cellsOf (Zbq d) l) mm (nE 4)
  obtain ⟨_, _, hqa, hqb, hqc, hqd⟩ := hok _ (getD_mem l (d := Ti0) hlt_k)
  have hlk : W.length = k := by have h5 := congrArg List.length hW; rwa [List.length_map, List.length_map, List.length_take, Nat.min_eq_left oo] at h5
  refine gC h (zk (zs (zb (yD Za [0, 1, 2, 3, 4, 5, 6, 7, 8, 9, 10, 11, 12, 13, 14, 15, 16, 17, 18, 19, 20] (Zb kk) (ym rfl rfl (ym rfl rfl (ym rfl rfl (yp rfl (.indexAddr rfl rfl (Zlk _ _ _ _ _ oo)) (yp rfl (Pure1.cast (v' := .pointer (some ⟨B_ad, O_ad + (k * 4 + 0), none⟩)) (.fA rfl Zp0) (by rw [Nat.add_assoc])) ?_))))))))); clear h
  refine Zm rfl kk rfl mm (Zbr (k := 4) (enc := (Zbq d)) (fun _ => rfl) l k 0 oo dd) isAgg3 sizeOf3 (Yf (k := 4) (enc := (Zbq d)) (fun _ => rfl) l Ti0 k oo false 1 0 _ dd dd rfl) (.inr rfl) dd ?_
  refine ym rfl rfl (ym rfl rfl (yp rfl (.indexAddr rfl rfl (Zlk _ _ _ _ _ oo)) (yp rfl (Pure1.cast (v' := .pointer (some ⟨B_ad, O_ad + (k * 4 + 1), none⟩)) (.fA rfl Zpz) (by rw [Nat.add_assoc])) ?_)))
  refine Zm rfl kk rfl mm (Zbr (k := 4) (enc := (Zbq d)) (fun _ => rfl) l k 1 oo dd) isAgg3 sizeOf3 (Yf (k := 4) (enc := (Zbq d)) (fun _ => rfl) l Ti0 k oo false 1 1 _ dd dd rfl) (.inr rfl) dd ?_
  refine ym rfl rfl (ym rfl rfl (yp rfl (.indexAddr rfl rfl (Zlk _ _ _ _ _ oo)) (yp rfl (Pure1.cast (v' := .pointer (some ⟨B_ad, O_ad + (k * 4 + 2), none⟩)) (.fA rfl Zpy) (by rw [Nat.add_assoc])) ?_)))
  refine Zm rfl kk rfl mm (Zbr (k := 4) (enc := (Zbq d)) (fun _ => rfl) l k 2 oo dd) isAgg25 sizeOf25 (Yf (k := 4) (enc := (Zbq d)) (fun _ => rfl) l Ti0 k oo true 2 2 _ dd dd rfl) (.inl rfl) dd ?_
  refine yf [_] rfl rfl call53 (Zyt ((l.getD k Ti0).n) ((l.getD k Ti0).d) oo oo oo oo) ?_; rintro v28 Ψ28 ⟨ad28, c28, bd28, d28, rfl, hle28, hlf28, rfl⟩
  have hl28 := Zc7 ((l.getD k Ti0).n) ((l.getD k Ti0).d) oo oo oo oo
  refine yp rfl (.build [(_, _), (_, _), (_, _)] rfl (Zn9 _ _ _ _ _)) (yB rfl [(_, _)] rfl (Zuv _ _ _ _ _) fun b30 => ?_)
  refine Zai (σr := []) rfl kk rfl rfl (List.Perm.trans (List.Perm.refl _) (List.Perm.cons _ (List.Perm.refl _))) hG1 runUnderlying102 runUnderlying102 typeInfo105 sizeOf105 zeroValue105 rfl dd dd rfl rfl dd (by show 72 * (2 * ((W).length + 1) + 192) ≤ 281474976710656; omega) dd ?_
  intro v31 o31 hG31
  obtain ⟨ad31, c31, rfl⟩ := hG31.is
  have hLn31 : (W).length + 1 = (W ++ [TF.mk ((brI d (l.getD k Ti0) : Nat) : Int) ((brJ d (l.getD k Ti0) : Nat) : Int) (FT.mk (qv ((l.getD k Ti0).n) ((l.getD k Ti0).d)) ad28 c28 bd28 d28 hle28 hlf28)]).length := lA
  rw [hLn31]; rw [hLn31] at hG31
  replace hG31 : GrowO 5 105 (.slice ad31 (W ++ [TF.mk ((brI d (l.getD k Ti0) : Nat) : Int) ((brJ d (l.getD k Ti0) : Nat) : Int) (FT.mk (qv ((l.getD k Ti0).n) ((l.getD k Ti0).d)) ad28 c28 bd28 d28 hle28 hlf28)]).length c31) (W ++ [TF.mk ((brI d (l.getD k Ti0) : Nat) : Int) ((brJ d (l.getD k Ti0) : Nat) : Int) (FT.mk (qv ((l.getD k Ti0).n) ((l.getD k Ti0).d)) ad28 c28 bd28 d28 hle28 hlf28)]).length (cellsOf Zbi (W ++ [TF.mk ((brI d (l.getD k Ti0) : Nat) : Int) ((brJ d (l.getD k Ti0) : Nat) : Int) (FT.mk (qv ((l.getD k Ti0).n) ((l.getD k Ti0).d)) ad28 c28 bd28 d28 hle28 hlf28)])) o31 := by rw [Zw, Je]; exact hG31
  refine yp rfl (.assign rfl) (yn (zr (zm rfl (zp (.pN (k + 1) (.add rfl rfl)) (za rfl (zn ?_)))))); intro a w h
  replace h := h.derive (R := AllF ((W ++ [TF.mk ((brI d (l.getD k Ti0) : Nat) : Int) ((brJ d (l.getD k Ti0) : Nat) : Int) (FT.mk (qv ((l.getD k Ti0).n) ((l.getD k Ti0).d)) ad28 c28 bd28 d28 hle28 hlf28)]).map TF.f)) (fun X hX => by rw [List.map_append]; exact AllF.snoc (hX _ mm) (hX _ mm) (hX _ mm))
  have hW2 : (W ++ [TF.mk ((brI d (l.getD k Ti0) : Nat) : Int) ((brJ d (l.getD k Ti0) : Nat) : Int) (FT.mk (qv ((l.getD k Ti0).n) ((l.getD k Ti0).d)) ad28 c28 bd28 d28 hle28 hlf28)]).map t3 = (l.take (k + 1)).map (tzB d) := by rw [List.map_append, hW, Ze0 l hlt_k, List.map_append]; rfl
  exact ⟨k + 1, ⟨oo, W ++ [TF.mk ((brI d (l.getD k Ti0) : Nat) : Int) ((brJ d (l.getD k Ti0) : Nat) : Int) (FT.mk (qv ((l.getD k Ti0).n) ((l.getD k Ti0).d)) ad28 c28 bd28 d28 hle28 hlf28)], ad31, c31, o31, ⟨hW2, hG31⟩, by exact (h.factsSub (by simp)).sub sA⟩, oo⟩
 ·
  skip
  have heq_k : l.length = k := dF hc9
  subst heq_k
  rw [List.take_length] at hW
  have hWA := hW
  have hlk : W.length = l.length := by have h5 := congrArg List.length hW; rwa [List.length_map, List.length_map] at h5
  replace h := St.shareO' h hS hG1
  refine gC h (ze (zS (zm rfl (zf [_] rfl call54 (C_tOf W ad1 c1 4 oo (ref_K hWA hok) dd (ref_ij hWA (fun t _ => okB_ij hd t))) ?_)))); rintro v33 Ψ33 ⟨b33, l33, rfl, hn33, he33, rfl⟩
  refine zp (.eX rfl) (zp (.eX rfl) (za rfl (za rfl (zn (zt ?_))))); intro a w h
  exact Qk (Ψ := [Row (some ⟨b33, 0, none⟩) (cellsOf Yq l33), AllF l33]) h (Jv h rfl (.tmp rfl) (.tmp rfl)) ⟨b33, l33, by rw [Zxr, hWA]; rfl, hn33, by rw [Zxr, tmF_t3, hWA] at he33; exact he33, rfl⟩ ss
end
section
def exB (n : Nat) : List UInt8 := if 10 ≤ n then [94, 49, UInt8.ofNat (48 + n - 10)] else if 1 < n then [94, UInt8.ofNat (48 + n)] else []
def lettB (s nm : ByteArray) (n : Nat) : ByteArray :=
 if n = 0 then s else
 if 10 ≤ n then (((if s = ⟨#[]⟩ then s else s ++ ⟨#[42]⟩) ++ nm) ++ ⟨#[94, 49]⟩) ++ ⟨#[UInt8.ofNat (48 + n - 10)]⟩
 else if 1 < n then (((if s = ⟨#[]⟩ then s else s ++ ⟨#[42]⟩) ++ nm) ++ ⟨#[94]⟩) ++ ⟨#[UInt8.ofNat (48 + n)]⟩
 else (if s = ⟨#[]⟩ then s else s ++ ⟨#[42]⟩) ++ nm
def fctB (nm : List UInt8) (n : Nat) : List UInt8 := if n = 0 then [] else nm ++ exB n
def rT (t : Tm) : ByteArray := lettB (lettB (if txtQ (ab t.c) = ⟨#[49]⟩ ∧ t.i + t.j > 0 then ⟨#[]⟩ else txtQ (ab t.c)) ⟨#[120]⟩ t.i) ⟨#[121]⟩ t.j
structure Vis (X : List Rat) (d j : Nat) (V : List Tm) : Prop where
 nrm : Nrm V
 old : ∀ t ∈ V, t.i + t.j < d ∨ (t.i + t.j = d ∧ t.j < j)
 cf : ∀ a b, a + b < d ∨ (a + b = d ∧ b < j) → lin (at0 a b) V = X.getD (13 * a + b) 0
theorem Vis.zero (X : List Rat) : Vis X 0 0 [] := ⟨⟨(fun _ h => nomatch h), List.Pairwise.nil⟩, (fun _ h => nomatch h), fun a b h => by omega⟩
theorem Vis.row {X : List Rat} {d : Nat} {V : List Tm} (h : Vis X d (d + 1) V) : Vis X (d + 1) 0 V :=
 ⟨h.nrm, fun t ht => by have := h.old t ht; omega, fun a b hab => h.cf a b oo⟩
theorem Vis.no {X : List Rat} {d j : Nat} {V : List Tm} (h : Vis X d j V) (hj : j ≤ d) : lin (at0 (d - j) j) V = 0 :=
 Yl (fun t ht e => by have := h.old t ht; omega)
theorem Vis.skip {X : List Rat} {d j : Nat} {V : List Tm} (h : Vis X d j V) (hj : j ≤ d) (hz : X.getD (13 * (d - j) + j) 0 = 0) : Vis X d (j + 1) V :=
 ⟨h.nrm, fun t ht => by have := h.old t ht; omega, fun a b hab => by
  by_cases e : a + b = d ∧ b = j
  ·
   obtain ⟨e1, e2⟩ := e
   rw [show a = d - j by omega, e2, h.no hj, hz]
  · exact h.cf a b oo⟩
theorem Vis.step {X : List Rat} {d j : Nat} {V : List Tm} (h : Vis X d j V) (hj : j ≤ d) (hz : X.getD (13 * (d - j) + j) 0 ≠ 0) : Vis X d (j + 1) (V ++ [⟨d - j, j, X.getD (13 * (d - j) + j) 0⟩]) := by
 refine ⟨⟨fun t ht => ?_, ?_⟩, fun t ht => ?_, fun a b hab => ?_⟩
 ·
  rcases List.mem_append.1 ht with ht | ht
  · exact h.nrm.1 t ht
  · rw [List.mem_singleton.1 ht]; exact hz
 ·
  rw [List.pairwise_append]
  refine ⟨h.nrm.2, List.pairwise_singleton _ _, fun s hs t ht => ?_⟩
  rw [List.mem_singleton.1 ht, Zb8]
  have := h.old s hs
  simp only; omega
 ·
  rcases List.mem_append.1 ht with ht | ht
  · have := h.old t ht; omega
  · rw [List.mem_singleton.1 ht]; simp only; omega
 ·
  rw [Jb]
  simp only [lin, at0]
  by_cases e : a + b = d ∧ b = j
  ·
   obtain ⟨e1, e2⟩ := e
   subst e2
   rw [show a = d - b by omega, h.no hj, if_pos ⟨rfl, rfl⟩]; grind
  · rw [if_neg oo, h.cf a b oo]; grind
theorem Vis.all {X : List Rat} {K : Nat} {V : List Tm} (h : Vis X 13 0 V) (hX : Tb 12 K X) : V = norm (pol X) := by
 refine Zk8 h.nrm (Gz _) (fun φ => ?_)
 have key : ∀ a b, lin (at0 a b) (V ++ Qw (-1) (norm (pol X))) = 0 := fun a b => by
  rw [Jb, Xh, Gf]
  by_cases hb : b < 13
  ·
   rw [Zwc hb]
   by_cases hd : a + b < 13
   · rw [h.cf a b oo]; grind
   ·
    have h1 : X.getD (13 * a + b) 0 = 0 := by
     by_cases hk : 13 * a + b < 169
     ·
      by_cases h2 : X.getD (13 * a + b) 0 = 0
      · exact h2
      · have := hX.deg _ hk h2; omega
     · rw [List.getD_eq_getElem?_getD, List.getElem?_eq_none (by rw [hX.len]; omega)]; rfl
    rw [h1, Yl (fun t ht e => by have := h.old t ht; omega)]; grind
  ·
   rw [Yl (l := V) (fun t ht e => by have := h.old t ht; omega), Yl (l := pol X) (fun t ht e => by
    obtain ⟨k, _, rfl⟩ := Zo9 ht; have := Nat.mod_lt k (show 0 < 13 by decide); simp only at e; omega)]; grind
 have h2 := Zsn key φ
 rw [Jb, Xh] at h2
 grind
def fuA (V : List Tm) : ByteArray := ⟨(fuB V).toArray⟩
def dgX (X : List Rat) : Nat → Int
 | 0 => -1
 | k + 1 => if X.getD k 0 = 0 then dgX X k else max (dgX X k) ((k / 13 + k % 13 : Nat) : Int)
end
end Go.Proofs.YtddhlkfpdjmplaaGreatDoor
