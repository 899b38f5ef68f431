/- Lists of decimal digits to the base 10000: the laws of NumW, for the reference. By an AI agent. -/
import Derived.Test.YtgkicbaomcmfoaaGreatDoorFxC
set_option linter.unusedVariables false
set_option linter.unusedSimpArgs false
namespace Go.Fx
open Go
def dg : Nat → List Nat
 | 0 => []
 | n + 1 => ((n + 1) % 10000) :: dg ((n + 1) / 10000)
termination_by n => n
decreasing_by omega
def Qi : List Nat → Nat
 | [] => 0
 | x :: l => x + 10000 * Qi l
theorem Qv : dg 0 = [] := by unfold dg; rfl
theorem Zib {n : Nat} (h : n ≠ 0) : dg n = (n % 10000) :: dg (n / 10000) := by
 cases n with
 | zero => exact absurd rfl h
 | succ n => rw [dg]
theorem Xm : ∀ n : Nat, Qi (dg n) = n := by
 intro n
 induction n using Nat.strongRecOn with
 | _ n ih =>
  by_cases h : n = 0
  · subst h; rw [Qv]; rfl
  ·
   rw [Zib h, Qi, ih (n / 10000) (by omega)]
   omega
theorem dg_lt : ∀ (n : Nat), ∀ x ∈ dg n, x < 10000 := by
 intro n
 induction n using Nat.strongRecOn with
 | _ n ih =>
  by_cases h : n = 0
  · subst h; rw [Qv]; intro x hx; cases hx
  ·
   rw [Zib h]
   intro x hx
   rcases List.mem_cons.1 hx with rfl | hx
   · omega
   · exact ih _ (by omega) x hx
def Dd (l : List Nat) : Prop := ∀ x ∈ l, x < 10000
theorem Dd.dg (n : Nat) : Dd (dg n) := dg_lt n
theorem Dd.take {l : List Nat} (h : Dd l) (m : Nat) : Dd (l.take m) := fun x hx => h x (List.mem_of_mem_take hx)
theorem Dd.getD {l : List Nat} (h : Dd l) (j : Nat) : l.getD j 0 < 10000 := by
 rw [List.getD_eq_getElem?_getD]
 by_cases hj : j < l.length
 · rw [List.getElem?_eq_getElem hj]; exact h _ (List.getElem_mem hj)
 · rw [List.getElem?_eq_none (by omega)]; simp
theorem Yr : ∀ (l m : List Nat), Qi (l ++ m) = Qi l + 10000 ^ l.length * Qi m
 | [], m => by simp [Qi]
 | x :: l, m => by
  simp only [List.cons_append, Qi, Yr l m, List.length_cons, Nat.pow_succ, Nat.mul_add, ← Nat.mul_assoc, Nat.add_assoc]
  congr 2
  rw [Nat.mul_comm (10000 ^ l.length) 10000]
theorem Zb3 : ∀ {l : List Nat}, Dd l → Qi l < 10000 ^ l.length
 | [], _ => by simp [Qi]
 | x :: l, h => by
  have h1 := Zb3 (l := l) (fun y hy => h y (List.mem_cons_of_mem _ hy))
  have h2 := h x List.mem_cons_self
  simp only [Qi, List.length_cons, Nat.pow_succ]
  have : 10000 * (Qi l + 1) ≤ 10000 * 10000 ^ l.length := Nat.mul_le_mul_left _ h1
  rw [Nat.mul_comm (10000 ^ l.length)]
  omega
theorem Qet : ∀ {l : List Nat}, Dd l → (∀ h : l ≠ [], l.getLast h ≠ 0) → dg (Qi l) = l
 | [], _, _ => by simp [Qi, Qv]
 | x :: l, h, hl => by
  have hx := h x List.mem_cons_self
  have hne : Qi (x :: l) ≠ 0 := by
   intro h0
   simp only [Qi] at h0
   cases l with
   | nil => exact hl (by simp) (by simp [Qi] at h0; simp [h0])
   | cons y l =>
    have h2 : Qi (y :: l) = 0 := by omega
    have := Qet (l := y :: l) (fun z hz => h z (List.mem_cons_of_mem _ hz)) (fun hn => by have := hl (by simp); simpa using this)
    rw [h2, Qv] at this
    cases this
  rw [Zib hne]
  have h1 : Qi (x :: l) % 10000 = x := by simp only [Qi]; omega
  have h2 : Qi (x :: l) / 10000 = Qi l := by simp only [Qi]; omega
  rw [h1, h2, Qet (fun z hz => h z (List.mem_cons_of_mem _ hz)) (fun hn => by
   have := hl (by simp)
   rwa [List.getLast_cons hn] at this)]
theorem Zk9 (n : Nat) (h : dg n ≠ []) : (dg n).getLast h ≠ 0 := by
 induction n using Nat.strongRecOn with
 | _ n ih =>
  have h0 : n ≠ 0 := fun e => h (by rw [e, Qv])
  simp only [Zib h0] at h ⊢
  by_cases h1 : dg (n / 10000) = []
  ·
   have h2 : n / 10000 = 0 := by
    have := Xm (n / 10000)
    rw [h1] at this; simp [Qi] at this; omega
   simp only [h1, List.getLast_singleton]; omega
  · rw [List.getLast_cons h1]; exact ih _ (by omega) h1
theorem Zfi : ∀ (l : List Nat), (∀ x ∈ l, x = 0) → Qi l = 0
 | [], _ => rfl
 | x :: l, h => by
  simp [Qi, h x List.mem_cons_self, Zfi l (fun y hy => h y (List.mem_cons_of_mem _ hy))]
theorem Zul {l : List Nat} {m : Nat} (hz : ∀ j, m ≤ j → j < l.length → l.getD j 0 = 0) : Qi (l.take m) = Qi l := by
 conv => rhs; rw [← List.take_append_drop m l, Yr]
 rw [Zfi (l.drop m) (fun x hx => by
  obtain ⟨i, hi, rfl⟩ := List.mem_iff_getElem.1 hx
  simp at hi
  have := hz (m + i) (by omega) (by omega)
  rw [List.getD_eq_getElem?_getD, List.getElem?_eq_getElem (by omega)] at this
  simpa using this)]
 simp
theorem Zru {l : List Nat} {m : Nat} (hw : Dd l) (hm : m ≤ l.length) (hz : ∀ j, m ≤ j → j < l.length → l.getD j 0 = 0) (hl : m = 0 ∨ l.getD (m - 1) 0 ≠ 0) : dg (Qi l) = l.take m := by
 rw [← Zul hz]
 refine Qet (hw.take m) (fun hne => ?_)
 have hlen : (l.take m).length = m := by simp; omega
 rcases hl with rfl | hl
 · simp at hne
 ·
  have hm0 : 0 < m := by
   rcases Nat.eq_zero_or_pos m with h | h
   · subst h; simp at hne
   · exact h
  rw [List.getLast_eq_getElem]
  simp only [hlen]
  rw [List.getElem_take]
  rw [List.getD_eq_getElem?_getD, List.getElem?_eq_getElem (by omega)] at hl
  simpa using hl
theorem Zc6 {l : List Nat} (hw : Dd l) : (dg (Qi l)).length ≤ l.length := by
 rcases Nat.lt_or_ge l.length (dg (Qi l)).length with h | h
 ·
  exfalso
  have h1 := Zb3 hw
  have hne : dg (Qi l) ≠ [] := fun e => by rw [e] at h; simp at h
  have h2 := Xm (Qi l)
  rw [← List.dropLast_concat_getLast hne, Yr] at h2
  have h3 := Zk9 _ hne
  simp only [Qi, List.length_dropLast, Nat.mul_zero, Nat.add_zero] at h2
  have h4 : 10000 ^ l.length ≤ 10000 ^ ((dg (Qi l)).length - 1) := Nat.pow_le_pow_right (by omega) (by omega)
  have h5 : 10000 ^ ((dg (Qi l)).length - 1) * 1 ≤ 10000 ^ ((dg (Qi l)).length - 1) * (dg (Qi l)).getLast hne := Nat.mul_le_mul_left _ (by omega)
  omega
 · exact h
theorem Zkb : ∀ (l : List Nat) (i v : Nat), i < l.length → Qi (l.set i v) + 10000 ^ i * l.getD i 0 = Qi l + 10000 ^ i * v
 | [], i, v, h => by simp at h
 | x :: l, 0, v, _ => by simp [Qi]; omega
 | x :: l, i + 1, v, h => by
  have ih := Zkb l i v (by simpa using h)
  simp only [List.set_cons_succ, Qi, List.getD_cons_succ, Nat.pow_succ]
  have e1 : 10000 ^ i * 10000 * l.getD i 0 = 10000 * (10000 ^ i * l.getD i 0) := by rw [Nat.mul_comm (10000 ^ i) 10000, Nat.mul_assoc]
  have e2 : 10000 ^ i * 10000 * v = 10000 * (10000 ^ i * v) := by rw [Nat.mul_comm (10000 ^ i) 10000, Nat.mul_assoc]
  rw [e1, e2]; omega
theorem Vz (l : List Nat) (i : Nat) : Qi (l.drop i) = l.getD i 0 + 10000 * Qi (l.drop (i + 1)) := by
 rcases Nat.lt_or_ge i l.length with h | h
 · rw [List.drop_eq_getElem_cons h, Qi]; simp [List.getD, h]
 · rw [List.drop_eq_nil_of_le h, List.drop_eq_nil_of_le (by omega)]; simp [Qi, List.getD, h]
theorem Dd.set {l : List Nat} (h : Dd l) (i v : Nat) (hv : v < 10000) : Dd (l.set i v) := by
 intro x hx
 rcases List.mem_or_eq_of_mem_set hx with h' | h'
 · exact h x h'
 · omega
theorem Dd.drop {l : List Nat} (h : Dd l) (m : Nat) : Dd (l.drop m) := fun x hx => h x (List.mem_of_mem_drop hx)
theorem Dd.append {l m : List Nat} (h : Dd l) (h' : Dd m) : Dd (l ++ m) := fun x hx => by
 rcases List.mem_append.1 hx with h1 | h1
 · exact h x h1
 · exact h' x h1
theorem Dd.zeros (k : Nat) : Dd (List.replicate k 0) := fun x hx => by have := List.eq_of_mem_replicate hx; omega
theorem Qap {Z : List Nat} {N c T U : Nat} (hw : Dd Z) (hl : Z.length = N) (hle : U ≤ T) (hZ : Qi Z + U = T + 10000 ^ N * c) : Qi Z = T - U := by
 have h1 := Zb3 hw
 rw [hl] at h1
 rcases Nat.eq_zero_or_pos c with h | h
 · subst h; omega
 ·
  have := Nat.mul_le_mul_left (10000 ^ N) h
  omega
theorem Zw2 {Z Y : List Nat} {i k c wd T : Nat} (hi : i + k < Z.length) (hZ : Qi Z + 10000 ^ (i + k) * c + 10000 ^ (i + k) * (wd * Qi (Y.drop k)) = T) :
  Qi (Z.set (i + k) ((c + (wd * Y.getD k 0 + Z.getD (i + k) 0)) % 10000)) + 10000 ^ (i + (k + 1)) * ((c + (wd * Y.getD k 0 + Z.getD (i + k) 0)) / 10000) + 10000 ^ (i + (k + 1)) * (wd * Qi (Y.drop (k + 1))) = T := by
 have h1 := Zkb Z (i + k) ((c + (wd * Y.getD k 0 + Z.getD (i + k) 0)) % 10000) hi
 rw [Vz Y k] at hZ
 have h2 := Nat.div_add_mod (c + (wd * Y.getD k 0 + Z.getD (i + k) 0)) 10000
 generalize hq : (c + (wd * Y.getD k 0 + Z.getD (i + k) 0)) / 10000 = q at *
 generalize hr : (c + (wd * Y.getD k 0 + Z.getD (i + k) 0)) % 10000 = r at *
 generalize Qi (Y.drop (k + 1)) = R at *
 rw [show i + (k + 1) = (i + k) + 1 from rfl, Nat.pow_succ]
 generalize 10000 ^ (i + k) = B at *
 have h3 : B * (10000 * q) + B * r = B * c + (B * (wd * Y.getD k 0) + B * Z.getD (i + k) 0) := by rw [← Nat.mul_add, ← Nat.mul_add, ← Nat.mul_add, h2]
 have h4 : B * 10000 * (wd * R) = B * (wd * (10000 * R)) := by rw [Nat.mul_assoc]; congr 1; rw [← Nat.mul_assoc, ← Nat.mul_assoc, Nat.mul_comm wd]
 rw [h4]
 simp only [Nat.mul_add, Nat.mul_assoc] at *
 omega
theorem Zga {l : List Nat} (hw : Dd l) (i : Nat) : Qi (l.take i) < 10000 ^ i := by
 have h1 := Zb3 (hw.take i)
 have h2 : 10000 ^ (l.take i).length ≤ 10000 ^ i := Nat.pow_le_pow_right (by omega) (by simp; omega)
 omega
theorem Zhd {Z : List Nat} {m : Nat} (h : Qi Z < 10000 ^ m) {j : Nat} (hj : m ≤ j) : Z.getD j 0 = 0 := by
 rcases Nat.eq_zero_or_pos (Z.getD j 0) with h0 | h0
 · exact h0
 ·
  exfalso
  have hl : j < Z.length := by
   rcases Nat.lt_or_ge j Z.length with h1 | h1
   · exact h1
   · have := Km h1; omega
  have h1 := Zkb Z j 0 hl
  have h2 : 10000 ^ m ≤ 10000 ^ j := Nat.pow_le_pow_right (by omega) hj
  have h3 := Nat.mul_le_mul_left (10000 ^ j) h0
  omega
theorem Zic {n m : Nat} (h : (dg n).length < (dg m).length) : n < m := by
 have h1 := Zb3 (Dd.dg n)
 rw [Xm] at h1
 have hne : dg m ≠ [] := fun e => by rw [e] at h; simp at h
 have h2 := Xm m
 rw [← List.dropLast_concat_getLast hne, Yr] at h2
 have h3 := Zk9 _ hne
 simp only [Qi, List.length_dropLast, Nat.mul_zero, Nat.add_zero] at h2
 have h4 : 10000 ^ (dg n).length ≤ 10000 ^ ((dg m).length - 1) := Nat.pow_le_pow_right (by omega) (by omega)
 have h5 : 10000 ^ ((dg m).length - 1) * 1 ≤ 10000 ^ ((dg m).length - 1) * (dg m).getLast hne := Nat.mul_le_mul_left _ (by omega)
 omega
theorem Zp6 {X Y : List Nat} {i : Nat} (hX : Dd X) (hY : Dd Y) (hlt : X.getD i 0 < Y.getD i 0) (hd : X.drop (i + 1) = Y.drop (i + 1)) : Qi X < Qi Y := by
 have hs : ∀ l : List Nat, i < l.length → Qi l = Qi (l.take i) + 10000 ^ i * (l.getD i 0 + 10000 * Qi (l.drop (i + 1))) := fun l hl => by
  conv => lhs; rw [← List.take_append_drop i l, Yr]
  rw [Vz l i]; simp [Nat.min_eq_left (Nat.le_of_lt hl)]
 have hiY : i < Y.length := by
  rcases Nat.lt_or_ge i Y.length with h1 | h1
  · exact h1
  · have := Km h1; omega
 have h1 := Zga hX i
 rw [hs Y hiY]
 have hX' : Qi X ≤ Qi (X.take i) + 10000 ^ i * (X.getD i 0 + 10000 * Qi (X.drop (i + 1))) := by
  rcases Nat.lt_or_ge i X.length with h2 | h2
  · exact Nat.le_of_eq (hs X h2)
  · rw [List.take_of_length_le h2]; omega
 rw [hd] at hX'
 have h3 := Nat.mul_le_mul_left (10000 ^ i) (show X.getD i 0 + 10000 * Qi (Y.drop (i + 1)) + 1 ≤ Y.getD i 0 + 10000 * Qi (Y.drop (i + 1)) by omega)
 rw [Nat.mul_add] at h3
 omega
theorem Zhe (l : List Nat) (i : Nat) (h : i < l.length) : Qi (l.take (i + 1)) = Qi (l.take i) + 10000 ^ i * l.getD i 0 := by
 rw [List.take_add_one, List.getElem?_eq_getElem h, Yr, List.length_take, Nat.min_eq_left (Nat.le_of_lt h)]
 simp [Qi, List.getD, h]
theorem Zh9 {X Y Z : List Nat} {i j : Nat} (hX : Dd X) (hY : Dd Y) (hZ : Qi Z = Qi (X.take i) * Qi Y) (hj : i + Y.length ≤ j) : Z.getD j 0 = 0 := by
 refine Zhd (m := i + Y.length) ?_ hj
 rw [hZ, Nat.pow_add]
 exact Nat.mul_lt_mul'' (Zga hX i) (Zb3 hY)
theorem Zne {n : Nat} : dg n = [] ↔ n = 0 := by
 constructor
 · intro h; rw [← Xm n, h]; rfl
 · rintro rfl; exact Qv
theorem GrowO.le {k : Nat} {E : TypeId} {ad : Option Addr} {m m' c : Nat} {xs : List Value} {o : List (Nat × Obj)} (h : GrowO k E (.slice ad m c) m' xs o) : m ≤ c := by
 obtain ⟨_, ⟨h, _, _⟩ | ⟨_, _, _, h, _, h3, _⟩⟩ := h
 · cases h; exact Nat.le_refl _
 · cases h; exact h3
theorem dg_ge {n : Nat} (h : n ≠ 0) : 10000 ^ ((dg n).length - 1) ≤ n := by
 have hne : dg n ≠ [] := fun e => h (by rw [← Xm n, e]; rfl)
 have h2 := Xm n
 rw [← List.dropLast_concat_getLast hne, Yr] at h2
 have h3 := Zk9 _ hne
 simp only [Qi, List.length_dropLast, Nat.mul_zero, Nat.add_zero] at h2
 have h5 : 10000 ^ ((dg n).length - 1) * 1 ≤ 10000 ^ ((dg n).length - 1) * (dg n).getLast hne := Nat.mul_le_mul_left _ (by omega)
 omega
theorem Vf {n k : Nat} (h : n < 10000 ^ k) : (dg n).length ≤ k := by
 by_cases h0 : n = 0
 · subst h0; simp [Qv]
 ·
  have h1 := dg_ge h0
  have h2 := (Nat.pow_lt_pow_iff_right (a := 10000) (by decide)).1 (Nat.lt_of_le_of_lt h1 h)
  omega
theorem Zbw (n : Nat) : n < 10000 ^ (dg n).length := by
 have := Zb3 (Dd.dg n); rwa [Xm] at this
theorem Yg {n m : Nat} (h : n ≤ m) : (dg n).length ≤ (dg m).length := Vf (Nat.lt_of_le_of_lt h (Zbw m))
theorem Vw (n m : Nat) : (dg (n * m)).length ≤ (dg n).length + (dg m).length :=
 Vf (by rw [Nat.pow_add]; exact Nat.mul_lt_mul'' (Zbw n) (Zbw m))
theorem Zdn (n m : Nat) : (dg (n + m)).length ≤ max (dg n).length (dg m).length + 1 := Vf (by
 have h1 := Zbw n
 have h2 := Zbw m
 have h3 : 10000 ^ (dg n).length ≤ 10000 ^ max (dg n).length (dg m).length := Nat.pow_le_pow_right (by decide) (by omega)
 have h4 : 10000 ^ (dg m).length ≤ 10000 ^ max (dg n).length (dg m).length := Nat.pow_le_pow_right (by decide) (by omega)
 rw [Nat.pow_succ]; omega)
theorem Zjr (n : Nat) : (dg n).length ≤ 3 * (wds n).length := Vf (by
 have h := Yb (Wd.wds n)
 rw [Qp] at h
 refine Nat.lt_of_lt_of_le h ?_
 rw [Nat.pow_mul]
 exact Nat.pow_le_pow_left (by decide) _)
theorem Zhf (Z : List Nat) (d : Nat) : Qi (Z ++ [d]) = Qi Z + 10000 ^ Z.length * d := by rw [Yr]; simp [Qi]
theorem Zlv {l : List Nat} {i : Nat} (h : l.length ≤ i) : Qi (l.drop i) = 0 := by rw [List.drop_eq_nil_of_le h]; rfl
theorem Dd.snoc {l : List Nat} (h : Dd l) {d : Nat} (hd : d < 10000) : Dd (l ++ [d]) := h.append (fun x hx => by simp at hx; omega)
theorem Qd1 (P x y z : Nat) (h : x + 10000 * y = z) : P * x + P * 10000 * y = P * z := by
 rw [← h, Nat.mul_add, Nat.mul_assoc]
theorem Zvl {Z A B : List Nat} {i k T : Nat} (hl : Z.length = i) (hZ : Qi Z + 10000 ^ i * (k + Qi (A.drop i) + Qi (B.drop i)) = T) :
  Qi (Z ++ [(A.getD i 0 + B.getD i 0 + k) % 10000]) + 10000 ^ (i + 1) * ((A.getD i 0 + B.getD i 0 + k) / 10000 + Qi (A.drop (i + 1)) + Qi (B.drop (i + 1))) = T := by
 rw [Zhf, hl, Nat.pow_succ, Nat.add_assoc, Qd1 (10000 ^ i) _ _ (k + Qi (A.drop i) + Qi (B.drop i)) (by rw [Vz A i, Vz B i]; omega)]
 exact hZ
theorem Zl8 {Z A B : List Nat} {i k k' d n m : Nat} (hl : Z.length = i) (hd : d + B.getD i 0 + k = A.getD i 0 + 10000 * k')
  (hZ : Qi Z + m + 10000 ^ i * Qi (A.drop i) = n + 10000 ^ i * (k + Qi (B.drop i))) :
  Qi (Z ++ [d]) + m + 10000 ^ (i + 1) * Qi (A.drop (i + 1)) = n + 10000 ^ (i + 1) * (k' + Qi (B.drop (i + 1))) := by
 rw [Zhf, hl, Nat.pow_succ]
 rw [Vz A i, Vz B i] at hZ
 generalize 10000 ^ i = P at *
 generalize Qi (A.drop (i + 1)) = a at *
 generalize Qi (B.drop (i + 1)) = b at *
 generalize A.getD i 0 = x at *
 generalize B.getD i 0 = y at *
 have e1 : P * (x + 10000 * a) = P * x + P * 10000 * a := by rw [Nat.mul_add, Nat.mul_assoc]
 have e2 : P * (k + (y + 10000 * b)) = P * k + P * y + P * 10000 * b := by rw [Nat.mul_add, Nat.mul_add, Nat.mul_assoc, Nat.add_assoc]
 have e3 : P * 10000 * (k' + b) = P * 10000 * k' + P * 10000 * b := Nat.mul_add _ _ _
 have e4 : P * d + P * y + P * k = P * x + P * 10000 * k' := by rw [← Nat.mul_add, ← Nat.mul_add, hd, Nat.mul_add, Nat.mul_assoc]
 rw [e3]; rw [e1, e2] at hZ
 omega
theorem Zla (n : Nat) : ∀ i, (dg n).drop i = dg (n / 10000 ^ i)
 | 0 => by simp
 | i + 1 => by
  rw [← List.drop_drop, Zla n i, Nat.pow_succ, ← Nat.div_div_eq_div_mul]
  generalize n / 10000 ^ i = k
  by_cases h : k = 0
  · subst h; simp [Qv]
  · rw [Zib h]; rfl
theorem Xy (n i : Nat) : Qi ((dg n).drop i) = n / 10000 ^ i := by rw [Zla, Xm]
theorem Qer {R m f : Nat} (hm : 0 < m) : Qi ((dg R).drop f) / (Qi ((dg m).drop f) + 1) ≤ R / m := by
 rw [Xy, Xy, Nat.le_div_iff_mul_le hm]
 have hP : 0 < 10000 ^ f := Nat.pow_pos (by decide)
 have h1 := Nat.lt_mul_div_succ m hP
 have h2 := Nat.div_mul_le_self (R / 10000 ^ f) (m / 10000 ^ f + 1)
 have h3 := Nat.div_mul_le_self R (10000 ^ f)
 generalize 10000 ^ f = P at *
 generalize hq : R / P / (m / P + 1) = q at *
 calc q * m ≤ q * (P * (m / P + 1)) := Nat.mul_le_mul_left _ (Nat.le_of_lt h1)
  _ = (q * (m / P + 1)) * P := by rw [Nat.mul_comm P, Nat.mul_assoc]
  _ ≤ R / P * P := Nat.mul_le_mul_right _ h2
  _ ≤ R := h3
theorem Qar {R m f : Nat} (hT : 0 < Qi ((dg m).drop f)) : R / m ≤ Qi ((dg R).drop f) / Qi ((dg m).drop f) := by
 rw [Xy] at hT
 rw [Xy, Xy, Nat.le_div_iff_mul_le hT]
 have hP : 0 < 10000 ^ f := Nat.pow_pos (by decide)
 have h1 := Nat.lt_mul_div_succ R hP
 have h2 := Nat.div_mul_le_self R m
 have h3 := Nat.div_mul_le_self m (10000 ^ f)
 generalize 10000 ^ f = P at *
 generalize hq : R / m = q at *
 have h4 : (q * (m / P)) * P < (R / P + 1) * P := calc
  (q * (m / P)) * P = q * (m / P * P) := Nat.mul_assoc _ _ _
  _ ≤ q * m := Nat.mul_le_mul_left _ h3
  _ ≤ R := h2
  _ < P * (R / P + 1) := h1
  _ = (R / P + 1) * P := Nat.mul_comm _ _
 have := Nat.lt_of_mul_lt_mul_right h4
 omega
theorem Qdb {m f : Nat} (hm : m ≠ 0) (hf : f ≤ (dg m).length - 1) : 0 < Qi ((dg m).drop f) := by
 rw [Xy]
 exact Nat.div_pos (Nat.le_trans (Nat.pow_le_pow_right (by decide) hf) (dg_ge hm)) (Nat.pow_pos (by decide))
theorem Zrs (n i : Nat) : n / 10000 ^ i = (dg n).getD i 0 + 10000 * (n / 10000 ^ (i + 1)) := by
 rw [← Xy n i, Vz, Xy]
theorem Znc (n m i R : Nat) (hR : R = (dg n).getD i 0 + 10000 * (n / 10000 ^ (i + 1) % m)) : n / 10000 ^ i % m = R % m := by
 rw [Zrs n i, hR]
 conv => lhs; rw [← Nat.div_add_mod (n / 10000 ^ (i + 1)) m]
 rw [Nat.mul_add, ← Nat.add_assoc, Nat.add_right_comm, Nat.mul_left_comm, Nat.add_mul_mod_self_left]
theorem Znb (n m i R : Nat) (hm : 0 < m) (hR : R = (dg n).getD i 0 + 10000 * (n / 10000 ^ (i + 1) % m)) : n / 10000 ^ i / m = R / m + 10000 * (n / 10000 ^ (i + 1) / m) := by
 rw [Zrs n i, hR]
 conv => lhs; rw [← Nat.div_add_mod (n / 10000 ^ (i + 1)) m]
 rw [Nat.mul_add, ← Nat.add_assoc, Nat.add_right_comm, Nat.mul_left_comm, Nat.add_mul_div_left _ _ hm]
theorem Qdv {m R a r : Nat} (hR : R = a + 10000 * r) (ha : a < 10000) (hr : r < m) : R < 10000 * m := by omega
theorem Zzj {m R : Nat} (h : R < 10000 * m) : (dg R).length ≤ (dg m).length + 1 := Vf (by
 have := Zbw m
 rw [Nat.pow_succ]; omega)
theorem Zka {Z : List Nat} {i v : Nat} (h : i < Z.length) : Qi ((Z.set i v).drop i) = v + 10000 * Qi (Z.drop (i + 1)) := by
 rw [Vz, List.drop_set, if_pos (by omega)]
 simp [List.getD, h]
end Go.Fx
