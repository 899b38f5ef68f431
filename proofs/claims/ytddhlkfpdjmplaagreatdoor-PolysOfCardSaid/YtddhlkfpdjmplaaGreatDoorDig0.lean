/- Written by a program of ours (gen.py) out of short specifications. By an AI agent. -/
import Derived.Test.YtddhlkfpdjmplaaGreatDoorText2b
set_option linter.unusedVariables false
set_option linter.unusedSimpArgs false
set_option maxRecDepth 4000
namespace Go.Proofs.YtddhlkfpdjmplaaGreatDoor
open Go Go.Proofs Go.Fx
attribute [local irreducible] Oper.wp Code.wp wpList Fx.Head wpOp
def lowD (n : Nat) : Nat → List UInt8
  | 0 => []
  | k + 1 => UInt8.ofNat (48 + n / 10 ^ k % 10) :: lowD n k
def lowS (n k : Nat) : ByteArray := ⟨(lowD n k).toArray⟩
theorem lowD_len (n : Nat) : ∀ k, (lowD n k).length = k
  | 0 => rfl
  | k + 1 => congrArg (· + 1) (lowD_len n k)
theorem lowS_size (n k : Nat) : (lowS n k).size = k := by show (lowD n k).toArray.size = k; rw [List.size_toArray, lowD_len]
theorem lowD_snoc (n : Nat) : ∀ k, lowD n (k + 1) = lowD (n / 10) k ++ [UInt8.ofNat (48 + n % 10)]
  | 0 => by simp [lowD]
  | k + 1 => by
    rw [lowD, lowD_snoc n k, lowD, List.cons_append]
    congr 2
    rw [Nat.div_div_eq_div_mul, Nat.pow_succ, Nat.mul_comm]
theorem decDigits_low (n : Nat) : Lib.decDigits n = lowD n (Lib.nDigits n) := by
  induction n using Nat.strongRecOn with
  | _ n ih =>
    by_cases h : n < 10
    · rw [Lib.decDigits_one h, Lib.nDigits_small h]
      simp [lowD, Nat.mod_eq_of_lt h]
    · rw [Lib.decDigits, dif_neg h, Lib.nDigits_big h, lowD_snoc, ih (n / 10) (by omega)]
theorem lowS_cons (n k : Nat) : (ByteArray.mk #[UInt8.ofNat (48 + n / 10 ^ k % 10)]) ++ lowS n k = lowS n (k + 1) := by
  apply ByteArray.ext
  rw [ByteArray.data_append]
  apply Array.ext'
  simp [lowS, lowD]
theorem decDigits_cut : ∀ (k n : Nat), 10 ^ k ≤ n → Lib.decDigits n = Lib.decDigits (n / 10 ^ k) ++ lowD n k
  | 0, n, _ => by rw [Nat.pow_zero, Nat.div_one, lowD, List.append_nil]
  | k + 1, n, h => by
    have h1 : 10 ^ k * 10 ≤ n := by rw [← Nat.pow_succ]; exact h
    have h0 : 0 < 10 ^ k := Nat.pow_pos (by decide)
    have h10 : ¬ n < 10 := by omega
    have e : Lib.decDigits n = Lib.decDigits (n / 10) ++ [UInt8.ofNat (48 + n % 10)] := by rw [Lib.decDigits, dif_neg h10]
    rw [e, lowD_snoc, ← List.append_assoc, decDigits_cut k (n / 10) ((Nat.le_div_iff_mul_le (by decide)).2 h1), Nat.div_div_eq_div_mul, Nat.pow_succ, Nat.mul_comm 10]
theorem lowD_pad (r m : Nat) (h : r < 10 ^ m) : ∀ a, lowD r (m + a) = List.replicate a 48 ++ lowD r m
  | 0 => rfl
  | a + 1 => by
    rw [← Nat.add_assoc, lowD, lowD_pad r m h a, List.replicate_succ, List.cons_append]
    have : r / 10 ^ (m + a) = 0 := Nat.div_eq_of_lt (Nat.lt_of_lt_of_le h (Nat.pow_le_pow_right (by decide) (by omega)))
    rw [this]; rfl
theorem pad_low {r k : Nat} (h : r < 10 ^ (k + 1)) : List.replicate (k + 1 - Lib.nDigits r) 48 ++ Lib.decDigits r = lowD r (k + 1) := by
  have h1 := nDigits_le h
  have h2 := lowD_pad r (Lib.nDigits r) (Lib.lt_pow_nDigits r) (k + 1 - Lib.nDigits r)
  rw [decDigits_low, ← h2]
  congr 1; omega
theorem lowD_mod : ∀ (k n : Nat), lowD (n % 10 ^ k) k = lowD n k
  | 0, _ => rfl
  | k + 1, n => by
    rw [lowD_snoc, lowD_snoc]
    have e1 : n % 10 ^ (k + 1) / 10 = n / 10 % 10 ^ k := by rw [Nat.pow_succ, Nat.mul_comm, Nat.mod_mul_right_div_self]
    have e2 : n % 10 ^ (k + 1) % 10 = n % 10 := by rw [Nat.pow_succ, Nat.mul_comm, Nat.mod_mul_right_mod]
    rw [e1, e2, lowD_mod k (n / 10)]
theorem lowD_add (n a : Nat) : ∀ b, lowD n (a + b) = lowD (n / 10 ^ a) b ++ lowD n a
  | 0 => rfl
  | b + 1 => by
    rw [← Nat.add_assoc, lowD, lowD_add n a b, lowD, List.cons_append]
    congr 3
    rw [Nat.div_div_eq_div_mul, ← Nat.pow_add]
def chunk (m : Nat) : ByteArray := if m / 1000000000 = 0 then dB m else lowS m 9
def prt (n : Nat) : Nat → List ByteArray
  | 0 => []
  | i + 1 => prt n i ++ [chunk (n / 10 ^ (9 * i))]
theorem prt_len (n : Nat) : ∀ i, (prt n i).length = i
  | 0 => rfl
  | i + 1 => by rw [prt, List.length_append, prt_len n i]; rfl
def catB (l : List ByteArray) : List UInt8 := l.flatMap (·.data.toList)
theorem cat_low (n : Nat) : ∀ i, n / 10 ^ (9 * i) ≠ 0 → catB (prt n i).reverse = lowD n (9 * i)
  | 0, _ => rfl
  | i + 1, h => by
    have e : n / 10 ^ (9 * (i + 1)) = n / 10 ^ (9 * i) / 1000000000 := by
      rw [Nat.div_div_eq_div_mul, show 9 * (i + 1) = 9 * i + 9 by omega, Nat.pow_add]
    rw [e] at h
    have h0 : n / 10 ^ (9 * i) ≠ 0 := fun h1 => h (by rw [h1])
    have ih := cat_low n i h0
    rw [prt, List.reverse_append, List.reverse_singleton, List.singleton_append]
    show (chunk (n / 10 ^ (9 * i))).data.toList ++ catB (prt n i).reverse = _
    rw [ih, chunk, if_neg h, show 9 * (i + 1) = 9 * i + 9 by omega, lowD_add]; rfl
theorem cat_all {n i : Nat} (h : n / 10 ^ (9 * i) ≠ 0) (h2 : n / 10 ^ (9 * (i + 1)) = 0) : catB (prt n (i + 1)).reverse = Lib.decDigits n := by
  have e : n / 10 ^ (9 * (i + 1)) = n / 10 ^ (9 * i) / 1000000000 := by
    rw [Nat.div_div_eq_div_mul, show 9 * (i + 1) = 9 * i + 9 by omega, Nat.pow_add]
  rw [e] at h2
  rw [prt, List.reverse_append, List.reverse_singleton, List.singleton_append]
  show (chunk (n / 10 ^ (9 * i))).data.toList ++ catB (prt n i).reverse = _
  have hle : 10 ^ (9 * i) ≤ n := by
    rcases Nat.lt_or_ge n (10 ^ (9 * i)) with h3 | h3
    · exact absurd (Nat.div_eq_of_lt h3) h
    · exact h3
  rw [cat_low n i h, chunk, if_pos h2, decDigits_cut (9 * i) n hle]; rfl
theorem wds_bound (n : Nat) : n < 2 ^ (32 * (wds n).length) := by
  have h := valW_lt (Wd.wds n)
  rw [valW_wds] at h
  rw [Nat.pow_mul]; exact h
theorem prt_few {n i : Nat} (h : n / 10 ^ (9 * i) ≠ 0) : i < 2 * (wds n).length + 1 := by
  have hle : 10 ^ (9 * i) ≤ n := by
    rcases Nat.lt_or_ge n (10 ^ (9 * i)) with h3 | h3
    · exact absurd (Nat.div_eq_of_lt h3) h
    · exact h3
  have h1 : 2 ^ (16 * i) ≤ 10 ^ (9 * i) := by
    rw [Nat.pow_mul, Nat.pow_mul]; exact Nat.pow_le_pow_left (by decide) i
  have h2 := Nat.lt_of_le_of_lt (Nat.le_trans h1 hle) (wds_bound n)
  have h3 := (Nat.pow_lt_pow_iff_right (show 1 < 2 by decide)).1 h2
  omega
theorem nDigits_wds (n : Nat) : Lib.nDigits n ≤ 10 * (wds n).length + 1 := by
  refine nDigits_le ?_
  have h1 := wds_bound n
  have h2 : 2 ^ (32 * (wds n).length) ≤ 10 ^ (10 * (wds n).length) := by
    rw [Nat.pow_mul, Nat.pow_mul]; exact Nat.pow_le_pow_left (by decide) _
  have h3 : 10 ^ (10 * (wds n).length) ≤ 10 ^ (10 * (wds n).length + 1) := Nat.pow_le_pow_right (by decide) (by omega)
  omega
theorem dB_sizeW (n : Nat) : (dB n).size ≤ 10 * (wds n).length + 1 := by rw [dB_size]; exact nDigits_wds n
theorem chunk_size (m : Nat) : (chunk m).size ≤ 9 := by
  unfold chunk
  have h9 : (10 : Nat) ^ (8 + 1) = 1000000000 := rfl
  split
  · rename_i h
    rw [dB_size]; exact nDigits_le (k := 8) (by omega)
  · rw [lowS_size]; exact Nat.le_refl _
theorem prt_size (n : Nat) : ∀ i, ∀ x ∈ prt n i, x.size ≤ 9
  | 0, x, h => nomatch h
  | i + 1, x, h => by
    rw [prt] at h
    rcases List.mem_append.1 h with h | h
    · exact prt_size n i x h
    · rw [List.mem_singleton.1 h]; exact chunk_size _
end Go.Proofs.YtddhlkfpdjmplaaGreatDoor
