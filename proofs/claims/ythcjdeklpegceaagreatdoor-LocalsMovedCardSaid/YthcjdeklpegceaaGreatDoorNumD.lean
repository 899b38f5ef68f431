/- Division of lists of 32-bit words: plain laws (shift, halve, long division). By an AI agent. -/
import Derived.Test.YthcjdeklpegceaaGreatDoorNumW
set_option linter.unusedVariables false
set_option linter.unusedSimpArgs false
set_option linter.unusedSectionVars false
namespace Go.Fx
open Go
theorem Zfd {a : Nat} (h : a < 4294967296) : IntKind.u32.wrap (a : Int) = (a : Int) := wrap_u32 _ (by omega) (by omega)
theorem Zfc {a : Nat} (h : a < 18446744073709551616) : IntKind.u64.wrap (a : Int) = (a : Int) := wrap_u64 _ (by omega) (by omega)
theorem Zfx {l : List Nat} {i v : Nat} (h : i < l.length) : (l.set i v).drop i = v :: l.drop (i + 1) := by
 rw [List.drop_set]
 simp
 rw [List.drop_eq_getElem_cons h]
 rfl
theorem Zr2 {X Q : List Nat} {k y r : Nat} (hk : 0 < k) (hkX : k ≤ X.length) (hl : Q.length = X.length) (hT : Qb (X.drop k) = Qb (Q.drop k) * y + r) :
  Qb (X.drop (k - 1)) = Qb ((Q.set (k - 1) ((r * 4294967296 + X.getD (k - 1) 0) / y)).drop (k - 1)) * y + (r * 4294967296 + X.getD (k - 1) 0) % y := by
 rw [Zcn X (k - 1), Zfx (by omega), Nat.sub_add_cancel hk, hT, Qb]
 have h := Nat.div_add_mod (r * 4294967296 + X.getD (k - 1) 0) y
 generalize (r * 4294967296 + X.getD (k - 1) 0) / y = q at *
 generalize (r * 4294967296 + X.getD (k - 1) 0) % y = m at *
 generalize Qb (Q.drop k) = V at *
 rw [Nat.add_mul, Nat.mul_add, Nat.mul_assoc, Nat.mul_comm q y]
 omega
theorem Zh3 {r x y : Nat} (hr : r < y) (hx : x < 4294967296) : (r * 4294967296 + x) / y < 4294967296 := by
 refine Nat.div_lt_of_lt_mul ?_
 have := Nat.mul_le_mul_right 4294967296 (show r + 1 ≤ y from hr)
 omega
theorem Zf4 (s : Nat) (hs : s < 32) : 4294967296 = 2 ^ (32 - s) * 2 ^ s := by
 rw [← Nat.pow_add, Nat.sub_add_cancel (by omega)]
theorem Zof (x s : Nat) (hs : s < 32) : x * 2 ^ s % 4294967296 = (x % 2 ^ (32 - s)) * 2 ^ s := by
 rw [Zf4 s hs, Nat.mul_mod_mul_right]
theorem shl_or (x s c : Nat) (hs : s < 32) (hc : c < 2 ^ s) : (x * 2 ^ s % 4294967296) ||| c = x * 2 ^ s % 4294967296 + c := by
 rw [Zof x s hs]
 have h := Nat.shiftLeft_add_eq_or_of_lt hc (x % 2 ^ (32 - s))
 rw [Nat.shiftLeft_eq] at h
 exact h.symm
theorem Zt8 (x s c : Nat) (hs : s < 32) (hc : c < 2 ^ s) : x * 2 ^ s % 4294967296 + c < 4294967296 := by
 rw [Zof x s hs]
 have h1 : x % 2 ^ (32 - s) + 1 ≤ 2 ^ (32 - s) := Nat.mod_lt _ (Nat.pow_pos (by omega))
 have h2 := Nat.mul_le_mul_right (2 ^ s) h1
 rw [← Zf4 s hs, Nat.add_mul] at h2
 omega
theorem Zt9 (x s : Nat) (hs : s < 32) (hx : x < 4294967296) : x * 2 ^ s / 4294967296 < 2 ^ s := by
 refine Nat.div_lt_of_lt_mul ?_
 exact Nat.mul_lt_mul_of_pos_right hx (Nat.pow_pos (by omega))
theorem Zqc (s : Nat) (hs : s < 32) : 2 ^ s ≤ 2147483648 := by
 have : 2 ^ s ≤ 2 ^ 31 := Nat.pow_le_pow_right (by omega) (by omega)
 omega
theorem Zr3 {X Z : List Nat} {i c s : Nat} (hi : i < X.length) (hl : Z.length = X.length + 1) (hz : Z.getD i 0 = 0) (hT : Qb Z + 4294967296 ^ i * c = Qb (X.take i) * 2 ^ s) :
  Qb (Z.set i (X.getD i 0 * 2 ^ s % 4294967296 + c)) + 4294967296 ^ (i + 1) * (X.getD i 0 * 2 ^ s / 4294967296) = Qb (X.take (i + 1)) * 2 ^ s := by
 have h1 := Gy Z i (X.getD i 0 * 2 ^ s % 4294967296 + c) (by omega)
 rw [hz] at h1
 rw [Jq X i hi, Nat.add_mul, ← hT, Nat.mul_assoc, Nat.pow_succ, Nat.mul_assoc]
 have h2 := Nat.div_add_mod (X.getD i 0 * 2 ^ s) 4294967296
 have h3 : 4294967296 ^ i * (4294967296 * (X.getD i 0 * 2 ^ s / 4294967296)) + 4294967296 ^ i * (X.getD i 0 * 2 ^ s % 4294967296) = 4294967296 ^ i * (X.getD i 0 * 2 ^ s) := by rw [← Nat.mul_add, h2]
 rw [Nat.mul_add] at h1
 omega
theorem Zua {X Z : List Nat} {c s : Nat} (hl : Z.length = X.length + 1) (hz : Z.getD X.length 0 = 0) (hT : Qb Z + 4294967296 ^ X.length * c = Qb (X.take X.length) * 2 ^ s) :
  Qb (Z.set X.length c) = Qb X * 2 ^ s := by
 have h1 := Gy Z X.length c (by omega)
 rw [List.take_length] at hT
 rw [hz] at h1
 omega
theorem Zvw (x y : Nat) (hx : x < 4294967296) : (x / 2 ^ 1) ||| (y * 2 ^ 31 % 4294967296) = x / 2 + 2147483648 * (y % 2) := by
 have e : y * 2 ^ 31 % 4294967296 = (y % 2) * 2 ^ 31 := Zof y 31 (by omega)
 rw [e]
 have h := Nat.shiftLeft_add_eq_or_of_lt (show x / 2 < 2 ^ 31 by omega) (y % 2)
 rw [Nat.shiftLeft_eq] at h
 rw [Nat.pow_one, Nat.or_comm, ← h]
 omega
theorem Zvx {O Z : List Nat} {i r : Nat} (hi : i < O.length) (hl : Z.length = O.length) (hd : Z.drop i = O.drop i)
  (hT : 2 * Qb (Z.take i) + r = Qb (O.take i) + 4294967296 ^ i * (O.getD i 0 % 2)) :
  2 * Qb ((Z.set i (O.getD i 0 / 2 + 2147483648 * (O.getD (i + 1) 0 % 2))).take (i + 1)) + r = Qb (O.take (i + 1)) + 4294967296 ^ (i + 1) * (O.getD (i + 1) 0 % 2) := by
 rw [Jq _ i (by simp; omega), Jq O i hi, List.take_set_of_le (Nat.le_refl _)]
 have e : (Z.set i (O.getD i 0 / 2 + 2147483648 * (O.getD (i + 1) 0 % 2))).getD i 0 = O.getD i 0 / 2 + 2147483648 * (O.getD (i + 1) 0 % 2) := by
  simp [List.getD, hl, hi]
 rw [e, Nat.pow_succ, Nat.mul_assoc]
 have h3 : 2 * (4294967296 ^ i * (O.getD i 0 / 2 + 2147483648 * (O.getD (i + 1) 0 % 2))) + 4294967296 ^ i * (O.getD i 0 % 2) = 4294967296 ^ i * O.getD i 0 + 4294967296 ^ i * (4294967296 * (O.getD (i + 1) 0 % 2)) := by
  rw [Nat.mul_left_comm, ← Nat.mul_add, ← Nat.mul_add]
  congr 1
  omega
 omega
theorem Zza {O Z : List Nat} {r : Nat} (hr : r ≤ 1) (hl : Z.length = O.length) (hT : 2 * Qb (Z.take O.length) + r = Qb (O.take O.length) + 4294967296 ^ O.length * (O.getD O.length 0 % 2)) : Qb Z = Qb O / 2 := by
 rw [Zd0 (Nat.le_refl _), ← hl, List.take_length, hl, List.take_length] at hT
 omega
theorem Zvh {Z V : List Nat} {i c g dg d l' T : Nat} (hi : i < V.length) (hZ : i < Z.length) (hT : Qb Z + dg * Qb (V.take i) = T + 4294967296 ^ i * (c + g))
  (hd : d + (c + dg * V.getD i 0) % 4294967296 + g = Z.getD i 0 + 4294967296 * l') :
  Qb (Z.set i d) + dg * Qb (V.take (i + 1)) = T + 4294967296 ^ (i + 1) * ((c + dg * V.getD i 0) / 4294967296 + l') := by
 have h1 := Gy Z i d hZ
 have h2 := Nat.div_add_mod (c + dg * V.getD i 0) 4294967296
 rw [Jq V i hi, Nat.pow_succ, Nat.mul_add]
 generalize hq : (c + dg * V.getD i 0) / 4294967296 = q at *
 generalize hm : (c + dg * V.getD i 0) % 4294967296 = m at *
 rw [Nat.mul_left_comm dg]
 generalize hP : 4294967296 ^ i = P at *
 have h3 : P * d + P * (c + dg * V.getD i 0) + P * g = P * Z.getD i 0 + P * (4294967296 * (q + l')) := by
  rw [← Nat.mul_add, ← Nat.mul_add, ← Nat.mul_add]
  congr 1
  omega
 rw [Nat.mul_add P c] at h3
 rw [Nat.mul_add P c] at hT
 rw [Nat.mul_assoc P 4294967296]
 omega
theorem Zys {Z V : List Nat} {c g dg d l' T : Nat} (hZ : V.length < Z.length) (hT : Qb Z + dg * Qb (V.take V.length) = T + 4294967296 ^ V.length * (c + g)) (hd : d + c + g = Z.getD V.length 0 + 4294967296 * l') :
  Qb (Z.set V.length d) + dg * Qb V = T + 4294967296 ^ (V.length + 1) * l' := by
 have h1 := Gy Z V.length d hZ
 rw [List.take_length] at hT
 rw [Nat.pow_succ, Nat.mul_assoc]
 have h3 : 4294967296 ^ V.length * d + 4294967296 ^ V.length * (c + g) = 4294967296 ^ V.length * Z.getD V.length 0 + 4294967296 ^ V.length * (4294967296 * l') := by
  rw [← Nat.mul_add, ← Nat.mul_add]; congr 1; omega
 omega
theorem Zsk {c dg w : Nat} (hc : c < 4294967296) (hd : dg < 4294967296) (hw : w < 4294967296) : c + dg * w < 18446744073709551616 ∧ (c + dg * w) / 4294967296 < 4294967296 := by
 have := Zad hd hw
 omega
theorem Zdc (p W h : List Nat) (i : Nat) (hi : i < W.length) : (p ++ W ++ h).getD (p.length + i) 0 = W.getD i 0 := by
 rw [List.append_assoc]
 have h0 : ¬ p.length + i < p.length := by omega
 simp [List.getD, hi, List.getElem?_append, h0]
theorem set_mid (p W h : List Nat) (i v : Nat) (hi : i < W.length) : (p ++ W ++ h).set (p.length + i) v = p ++ W.set i v ++ h := by
 rw [List.append_assoc, List.set_append_right _ _ (by omega), List.append_assoc]
 simp [List.set_append, hi]
theorem Zg2 {Z O : List Nat} {i : Nat} (h : Z.drop i = O.drop i) {j : Nat} (hj : i ≤ j) : Z.getD j 0 = O.getD j 0 := by
 have e : ∀ l : List Nat, l.getD j 0 = (l.drop i).getD (j - i) 0 := fun l => by
  simp [List.getD, List.getElem?_drop, Nat.add_sub_cancel' hj]
 rw [e Z, e O, h]
theorem Zlo {l : List Nat} {i v : Nat} (h : i < l.length) : (l.set i v).getD i 0 = v := by simp [List.getD, h]
theorem Zlu {Z O : List Nat} {i v : Nat} (h : Z.drop i = O.drop i) : (Z.set i v).drop (i + 1) = O.drop (i + 1) := by
 have e : ∀ l : List Nat, l.drop (i + 1) = (l.drop i).drop 1 := fun l => by rw [List.drop_drop]
 rw [List.drop_set_of_lt (by omega), e Z, e O, h]
def Zdk (n : Nat) : Nat := if n = 0 then 0 else Nat.log2 n + 1
theorem Zvm (n : Nat) : n < 2 ^ Zdk n := by
 unfold Zdk
 split
 · simp [*]
 · exact Nat.lt_log2_self
theorem Zo0 {n : Nat} (h : n ≠ 0) : 2 ^ (Zdk n - 1) ≤ n := by
 unfold Zdk
 rw [if_neg h, Nat.add_sub_cancel]
 exact Nat.log2_self_le h
theorem Qb5 {n k : Nat} (h1 : 2 ^ k ≤ n) (h2 : n < 2 ^ (k + 1)) : Zdk n = k + 1 := by
 have h0 : n ≠ 0 := by have := Nat.pow_pos (n := k) (show 0 < 2 by omega); omega
 unfold Zdk
 rw [if_neg h0, (Nat.log2_eq_iff h0).2 ⟨h1, h2⟩]
theorem Zki {n k : Nat} (h : 2 ^ k ≤ n) : Zdk (n / 2 ^ k) + k = Zdk n := by
 have hp : 0 < 2 ^ k := Nat.pow_pos (by omega)
 have h0 : n / 2 ^ k ≠ 0 := by
  have := Nat.div_le_div_right (c := 2 ^ k) h
  rw [Nat.div_self hp] at this; omega
 have h1 := Zo0 h0
 have h2 := Zvm (n / 2 ^ k)
 have h3 : 0 < Zdk (n / 2 ^ k) := by unfold Zdk; rw [if_neg h0]; omega
 generalize Zdk (n / 2 ^ k) = L at *
 have e1 : 2 ^ (L - 1 + k) ≤ n := by
  rw [Nat.pow_add]
  exact Nat.le_trans (Nat.mul_le_mul_right _ h1) (Nat.div_mul_le_self n (2 ^ k))
 have e2 : n < 2 ^ (L - 1 + k + 1) := by
  rw [show L - 1 + k + 1 = L + k by omega, Nat.pow_add]
  exact (Nat.div_lt_iff_lt_mul hp).1 h2
 rw [Qb5 e1 e2]; omega
theorem Zgf {n k : Nat} (h : n < 2 ^ k) : Zdk n ≤ k := by
 by_cases h0 : n = 0
 · subst h0; simp [Zdk]
 ·
  have h1 := Zo0 h0
  have h2 : 2 ^ (Zdk n - 1) < 2 ^ k := Nat.lt_of_le_of_lt h1 h
  have := (Nat.pow_lt_pow_iff_right (a := 2) (by omega)).1 h2
  omega
end Go.Fx
