/- Division of lists of 32-bit words: plain laws (shift, halve, long division). By an AI agent. -/
import Derived.Test.YthcjdeklpegceaaGreatDoorNumW
set_option linter.unusedVariables false
set_option linter.unusedSimpArgs false
set_option linter.unusedSectionVars false
namespace Go.Fx
open Go
theorem Zf7 {a : Nat} (h : a < 4294967296) : IntKind.u32.wrap (a : Int) = (a : Int) := wrap_u32 _ (by omega) (by omega)
theorem Zf6 {a : Nat} (h : a < 18446744073709551616) : IntKind.u64.wrap (a : Int) = (a : Int) := wrap_u64 _ (by omega) (by omega)
theorem Zgv {l : List Nat} {i v : Nat} (h : i < l.length) : (l.set i v).drop i = v :: l.drop (i + 1) := by
 rw [List.drop_set]
 simp
 rw [List.drop_eq_getElem_cons h]
 rfl
theorem Zt5 {X Q : List Nat} {k y r : Nat} (hk : 0 < k) (hkX : k ≤ X.length) (hl : Q.length = X.length) (hT : Qg (X.drop k) = Qg (Q.drop k) * y + r) :
  Qg (X.drop (k - 1)) = Qg ((Q.set (k - 1) ((r * 4294967296 + X.getD (k - 1) 0) / y)).drop (k - 1)) * y + (r * 4294967296 + X.getD (k - 1) 0) % y := by
 rw [Zdc X (k - 1), Zgv (by omega), Nat.sub_add_cancel hk, hT, Qg]
 have h := Nat.div_add_mod (r * 4294967296 + X.getD (k - 1) 0) y
 generalize (r * 4294967296 + X.getD (k - 1) 0) / y = q at *
 generalize (r * 4294967296 + X.getD (k - 1) 0) % y = m at *
 generalize Qg (Q.drop k) = V at *
 rw [Nat.add_mul, Nat.mul_add, Nat.mul_assoc, Nat.mul_comm q y]
 omega
theorem Zi1 {r x y : Nat} (hr : r < y) (hx : x < 4294967296) : (r * 4294967296 + x) / y < 4294967296 := by
 refine Nat.div_lt_of_lt_mul ?_
 have := Nat.mul_le_mul_right 4294967296 (show r + 1 ≤ y from hr)
 omega
theorem Zg3 (s : Nat) (hs : s < 32) : 4294967296 = 2 ^ (32 - s) * 2 ^ s := by
 rw [← Nat.pow_add, Nat.sub_add_cancel (by omega)]
theorem Zpy (x s : Nat) (hs : s < 32) : x * 2 ^ s % 4294967296 = (x % 2 ^ (32 - s)) * 2 ^ s := by
 rw [Zg3 s hs, Nat.mul_mod_mul_right]
theorem shl_or (x s c : Nat) (hs : s < 32) (hc : c < 2 ^ s) : (x * 2 ^ s % 4294967296) ||| c = x * 2 ^ s % 4294967296 + c := by
 rw [Zpy x s hs]
 have h := Nat.shiftLeft_add_eq_or_of_lt hc (x % 2 ^ (32 - s))
 rw [Nat.shiftLeft_eq] at h
 exact h.symm
theorem Zv8 (x s c : Nat) (hs : s < 32) (hc : c < 2 ^ s) : x * 2 ^ s % 4294967296 + c < 4294967296 := by
 rw [Zpy x s hs]
 have h1 : x % 2 ^ (32 - s) + 1 ≤ 2 ^ (32 - s) := Nat.mod_lt _ (Nat.pow_pos (by omega))
 have h2 := Nat.mul_le_mul_right (2 ^ s) h1
 rw [← Zg3 s hs, Nat.add_mul] at h2
 omega
theorem Zv9 (x s : Nat) (hs : s < 32) (hx : x < 4294967296) : x * 2 ^ s / 4294967296 < 2 ^ s := by
 refine Nat.div_lt_of_lt_mul ?_
 exact Nat.mul_lt_mul_of_pos_right hx (Nat.pow_pos (by omega))
theorem Zr6 (s : Nat) (hs : s < 32) : 2 ^ s ≤ 2147483648 := by
 have : 2 ^ s ≤ 2 ^ 31 := Nat.pow_le_pow_right (by omega) (by omega)
 omega
theorem Zt6 {X Z : List Nat} {i c s : Nat} (hi : i < X.length) (hl : Z.length = X.length + 1) (hz : Z.getD i 0 = 0) (hT : Qg Z + 4294967296 ^ i * c = Qg (X.take i) * 2 ^ s) :
  Qg (Z.set i (X.getD i 0 * 2 ^ s % 4294967296 + c)) + 4294967296 ^ (i + 1) * (X.getD i 0 * 2 ^ s / 4294967296) = Qg (X.take (i + 1)) * 2 ^ s := by
 have h1 := Za8 Z i (X.getD i 0 * 2 ^ s % 4294967296 + c) (by omega)
 rw [hz] at h1
 rw [Xa X i hi, Nat.add_mul, ← hT, Nat.mul_assoc, Nat.pow_succ, Nat.mul_assoc]
 have h2 := Nat.div_add_mod (X.getD i 0 * 2 ^ s) 4294967296
 have h3 : 4294967296 ^ i * (4294967296 * (X.getD i 0 * 2 ^ s / 4294967296)) + 4294967296 ^ i * (X.getD i 0 * 2 ^ s % 4294967296) = 4294967296 ^ i * (X.getD i 0 * 2 ^ s) := by rw [← Nat.mul_add, h2]
 rw [Nat.mul_add] at h1
 omega
theorem Zwa {X Z : List Nat} {c s : Nat} (hl : Z.length = X.length + 1) (hz : Z.getD X.length 0 = 0) (hT : Qg Z + 4294967296 ^ X.length * c = Qg (X.take X.length) * 2 ^ s) :
  Qg (Z.set X.length c) = Qg X * 2 ^ s := by
 have h1 := Za8 Z X.length c (by omega)
 rw [List.take_length] at hT
 rw [hz] at h1
 omega
theorem Zx1 (x y : Nat) (hx : x < 4294967296) : (x / 2 ^ 1) ||| (y * 2 ^ 31 % 4294967296) = x / 2 + 2147483648 * (y % 2) := by
 have e : y * 2 ^ 31 % 4294967296 = (y % 2) * 2 ^ 31 := Zpy y 31 (by omega)
 rw [e]
 have h := Nat.shiftLeft_add_eq_or_of_lt (show x / 2 < 2 ^ 31 by omega) (y % 2)
 rw [Nat.shiftLeft_eq] at h
 rw [Nat.pow_one, Nat.or_comm, ← h]
 omega
theorem Zx2 {O Z : List Nat} {i r : Nat} (hi : i < O.length) (hl : Z.length = O.length) (hd : Z.drop i = O.drop i)
  (hT : 2 * Qg (Z.take i) + r = Qg (O.take i) + 4294967296 ^ i * (O.getD i 0 % 2)) :
  2 * Qg ((Z.set i (O.getD i 0 / 2 + 2147483648 * (O.getD (i + 1) 0 % 2))).take (i + 1)) + r = Qg (O.take (i + 1)) + 4294967296 ^ (i + 1) * (O.getD (i + 1) 0 % 2) := by
 rw [Xa _ i (by simp; omega), Xa O i hi, List.take_set_of_le (Nat.le_refl _)]
 have e : (Z.set i (O.getD i 0 / 2 + 2147483648 * (O.getD (i + 1) 0 % 2))).getD i 0 = O.getD i 0 / 2 + 2147483648 * (O.getD (i + 1) 0 % 2) := by
  simp [List.getD, hl, hi]
 rw [e, Nat.pow_succ, Nat.mul_assoc]
 have h3 : 2 * (4294967296 ^ i * (O.getD i 0 / 2 + 2147483648 * (O.getD (i + 1) 0 % 2))) + 4294967296 ^ i * (O.getD i 0 % 2) = 4294967296 ^ i * O.getD i 0 + 4294967296 ^ i * (4294967296 * (O.getD (i + 1) 0 % 2)) := by
  rw [Nat.mul_left_comm, ← Nat.mul_add, ← Nat.mul_add]
  congr 1
  omega
 omega
theorem Qbf {O Z : List Nat} {r : Nat} (hr : r ≤ 1) (hl : Z.length = O.length) (hT : 2 * Qg (Z.take O.length) + r = Qg (O.take O.length) + 4294967296 ^ O.length * (O.getD O.length 0 % 2)) : Qg Z = Qg O / 2 := by
 rw [Zes (Nat.le_refl _), ← hl, List.take_length, hl, List.take_length] at hT
 omega
theorem Zxn {Z V : List Nat} {i c g dg d l' T : Nat} (hi : i < V.length) (hZ : i < Z.length) (hT : Qg Z + dg * Qg (V.take i) = T + 4294967296 ^ i * (c + g))
  (hd : d + (c + dg * V.getD i 0) % 4294967296 + g = Z.getD i 0 + 4294967296 * l') :
  Qg (Z.set i d) + dg * Qg (V.take (i + 1)) = T + 4294967296 ^ (i + 1) * ((c + dg * V.getD i 0) / 4294967296 + l') := by
 have h1 := Za8 Z i d hZ
 have h2 := Nat.div_add_mod (c + dg * V.getD i 0) 4294967296
 rw [Xa V i hi, Nat.pow_succ, Nat.mul_add]
 generalize hq : (c + dg * V.getD i 0) / 4294967296 = q at *
 generalize hm : (c + dg * V.getD i 0) % 4294967296 = m at *
 rw [Nat.mul_left_comm dg]
 generalize hP : 4294967296 ^ i = P at *
 have h3 : P * d + P * (c + dg * V.getD i 0) + P * g = P * Z.getD i 0 + P * (4294967296 * (q + l')) := by
  rw [← Nat.mul_add, ← Nat.mul_add, ← Nat.mul_add]
  congr 1
  omega
 rw [Nat.mul_add P c] at h3
 rw [Nat.mul_add P c] at hT
 rw [Nat.mul_assoc P 4294967296]
 omega
theorem Qax {Z V : List Nat} {c g dg d l' T : Nat} (hZ : V.length < Z.length) (hT : Qg Z + dg * Qg (V.take V.length) = T + 4294967296 ^ V.length * (c + g)) (hd : d + c + g = Z.getD V.length 0 + 4294967296 * l') :
  Qg (Z.set V.length d) + dg * Qg V = T + 4294967296 ^ (V.length + 1) * l' := by
 have h1 := Za8 Z V.length d hZ
 rw [List.take_length] at hT
 rw [Nat.pow_succ, Nat.mul_assoc]
 have h3 : 4294967296 ^ V.length * d + 4294967296 ^ V.length * (c + g) = 4294967296 ^ V.length * Z.getD V.length 0 + 4294967296 ^ V.length * (4294967296 * l') := by
  rw [← Nat.mul_add, ← Nat.mul_add]; congr 1; omega
 omega
theorem Zus {c dg w : Nat} (hc : c < 4294967296) (hd : dg < 4294967296) (hw : w < 4294967296) : c + dg * w < 18446744073709551616 ∧ (c + dg * w) / 4294967296 < 4294967296 := by
 have := Zbc hd hw
 omega
theorem Zd6 (p W h : List Nat) (i : Nat) (hi : i < W.length) : (p ++ W ++ h).getD (p.length + i) 0 = W.getD i 0 := by
 rw [List.append_assoc]
 have h0 : ¬ p.length + i < p.length := by omega
 simp [List.getD, hi, List.getElem?_append, h0]
theorem set_mid (p W h : List Nat) (i v : Nat) (hi : i < W.length) : (p ++ W ++ h).set (p.length + i) v = p ++ W.set i v ++ h := by
 rw [List.append_assoc, List.set_append_right _ _ (by omega), List.append_assoc]
 simp [List.set_append, hi]
theorem Zh1 {Z O : List Nat} {i : Nat} (h : Z.drop i = O.drop i) {j : Nat} (hj : i ≤ j) : Z.getD j 0 = O.getD j 0 := by
 have e : ∀ l : List Nat, l.getD j 0 = (l.drop i).getD (j - i) 0 := fun l => by
  simp [List.getD, List.getElem?_drop, Nat.add_sub_cancel' hj]
 rw [e Z, e O, h]
theorem Zmx {l : List Nat} {i v : Nat} (h : i < l.length) : (l.set i v).getD i 0 = v := by simp [List.getD, h]
theorem Zm9 {Z O : List Nat} {i v : Nat} (h : Z.drop i = O.drop i) : (Z.set i v).drop (i + 1) = O.drop (i + 1) := by
 have e : ∀ l : List Nat, l.drop (i + 1) = (l.drop i).drop 1 := fun l => by rw [List.drop_drop]
 rw [List.drop_set_of_lt (by omega), e Z, e O, h]
def Zee (n : Nat) : Nat := if n = 0 then 0 else Nat.log2 n + 1
theorem Zxs (n : Nat) : n < 2 ^ Zee n := by
 unfold Zee
 split
 · simp [*]
 · exact Nat.lt_log2_self
theorem Zqn {n : Nat} (h : n ≠ 0) : 2 ^ (Zee n - 1) ≤ n := by
 unfold Zee
 rw [if_neg h, Nat.add_sub_cancel]
 exact Nat.log2_self_le h
theorem Qei {n k : Nat} (h1 : 2 ^ k ≤ n) (h2 : n < 2 ^ (k + 1)) : Zee n = k + 1 := by
 have h0 : n ≠ 0 := by have := Nat.pow_pos (n := k) (show 0 < 2 by omega); omega
 unfold Zee
 rw [if_neg h0, (Nat.log2_eq_iff h0).2 ⟨h1, h2⟩]
theorem Zlf {n k : Nat} (h : 2 ^ k ≤ n) : Zee (n / 2 ^ k) + k = Zee n := by
 have hp : 0 < 2 ^ k := Nat.pow_pos (by omega)
 have h0 : n / 2 ^ k ≠ 0 := by
  have := Nat.div_le_div_right (c := 2 ^ k) h
  rw [Nat.div_self hp] at this; omega
 have h1 := Zqn h0
 have h2 := Zxs (n / 2 ^ k)
 have h3 : 0 < Zee (n / 2 ^ k) := by unfold Zee; rw [if_neg h0]; omega
 generalize Zee (n / 2 ^ k) = L at *
 have e1 : 2 ^ (L - 1 + k) ≤ n := by
  rw [Nat.pow_add]
  exact Nat.le_trans (Nat.mul_le_mul_right _ h1) (Nat.div_mul_le_self n (2 ^ k))
 have e2 : n < 2 ^ (L - 1 + k + 1) := by
  rw [show L - 1 + k + 1 = L + k by omega, Nat.pow_add]
  exact (Nat.div_lt_iff_lt_mul hp).1 h2
 rw [Qei e1 e2]; omega
theorem Zhj {n k : Nat} (h : n < 2 ^ k) : Zee n ≤ k := by
 by_cases h0 : n = 0
 · subst h0; simp [Zee]
 ·
  have h1 := Zqn h0
  have h2 : 2 ^ (Zee n - 1) < 2 ^ k := Nat.lt_of_le_of_lt h1 h
  have := (Nat.pow_lt_pow_iff_right (a := 2) (by omega)).1 h2
  omega
end Go.Fx
