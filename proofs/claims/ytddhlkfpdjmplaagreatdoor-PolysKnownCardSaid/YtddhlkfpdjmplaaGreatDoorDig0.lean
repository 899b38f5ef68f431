/- Walks of functions. By an AI agent. -/
import Derived.Test.YtddhlkfpdjmplaaGreatDoorText2
set_option linter.unusedVariables false
set_option linter.unusedSimpArgs false
set_option maxRecDepth 4000
namespace Go.Proofs.YtddhlkfpdjmplaaGreatDoor
open Go Go.Proofs Go.Fx Tryz
attribute [local irreducible] Oper.wp Code.wp wpList Fx.Head wpOp
section
def TabF : Zy where
 p X w := ∃ g, Tryz.prog.globalNamed "internal/strconv.uint64pow10" = some g ∧ ¬ X g ∧ g < w.heap.size ∧ Lib.TabIs Tryz.prog w "internal/strconv.uint64pow10" .u64 Lib.pow10Tab
 st X X' w w' h hk hs hX := by
  obtain ⟨g, hg, hx, hlt, ht⟩ := h
  refine ⟨g, hg, fun h' => ?_, oo, ?_⟩
  ·
   rcases hX g h' with h1 | h1
   · exact hx h1
   · omega
  ·
   unfold Lib.TabIs World.var? at *
   simp only [hg, Option.bind_some] at ht ⊢
   rw [hk g hlt hx]; exact ht
theorem below_grow (w : World) (k : Nat) (os : Array Obj) : Go.RowKit.Below w.heap.size w (Sort.grow (w.drewN k) os) := ⟨rfl, rfl, rfl, by simp [Sort.grow, World.drewN], fun b hb => by
 show (w.heap ++ os)[b]? = _
 rw [Array.getElem?_append_left hb]⟩
def dB (n : Nat) : ByteArray := ⟨(Lib.decDigits n).toArray⟩
theorem Qct {n : Nat} (h : n < 100) : dB n = Zj6 n := by
 unfold dB Zj6
 split
 · rw [Lib.decDigits_one (by assumption)]
 · rw [Lib.decDigits_two (by assumption) h]
theorem Zjk (n : Nat) : (dB n).size = Lib.nDigits n := by
 show (Lib.decDigits n).toArray.size = _
 rw [List.size_toArray, Lib.decDigits_length]
theorem Zcp {k n : Nat} (h : n < 10 ^ (k + 1)) : Lib.nDigits n ≤ k + 1 := by
 induction k generalizing n with
 | zero => rw [Lib.nDigits_small (by simpa using h)]; exact Nat.le_refl _
 | succ k ih =>
  by_cases h1 : n < 10
  · rw [Lib.nDigits_small h1]; omega
  ·
   rw [Lib.nDigits_big h1]
   have := ih (n := n / 10) (by rw [Nat.pow_succ] at h; omega)
   omega
def Zvc (z : Int) : ByteArray := if z < 0 then ⟨#[45]⟩ ++ dB z.natAbs else dB z.natAbs
def Gj (x : Rat) : ByteArray := if x.den = 1 then Zvc x.num else Zvc x.num ++ ⟨#[47]⟩ ++ dB x.den
theorem Zk3 (c : UInt8) : (ByteArray.mk #[c]).size = 1 := rfl
theorem C_iFU2 (n : Nat) (hn : n < 18446744073709551616) : Vj Tryz.prog 199 [.int .u64 (n : Int), .int .i64 10] [TabF] (.string (dB n)) := by
 intro X w hX hΦ
 by_cases h : n < 100
 ·
  refine (C_iFU n h X w hX (fun _ h => nomatch h)).mono ?_
  rintro e w' ⟨v, Ψ, rfl, ⟨rfl, rfl⟩, hb, _⟩
  exact ⟨_, [], rfl, ⟨by rw [Qct h], rfl⟩, hb, fun _ h => nomatch h⟩
 ·
  obtain ⟨g, hg, _, _, ht⟩ := hΦ TabF (List.Mem.head _)
  refine (K_FU n oo hn w ht).mono ?_
  rintro e w' ⟨rfl, k, os, rfl⟩
  exact ⟨_, [], rfl, ⟨rfl, rfl⟩, below_grow w k os, fun _ h => nomatch h⟩
theorem C_FU2 (n : Nat) (hlt : n < 18446744073709551616) : Vj Tryz.prog 165 [.int .u64 (n : Int), .int .i64 10] [TabF] (.string (dB n)) := by
 refine fn_intro func165 rfl ntmps165 nb ?_
 intro S w0 a hS h
 refine gC h (zS (za rfl (zn (zS (zm rfl (zm rfl (zw [_, _] rfl call199 (C_iFU2 n hlt) (za rfl (zn (zt ?_)))))))))); clear h; intro a w h
 exact Zbw h
theorem Qde (n : Nat) (hlt : n < 18446744073709551616) : Vj Tryz.prog 119 [Vm n] [TabF] (.string (dB n)) := by
 refine fn_intro func119 rfl ntmps119 nb ?_
 intro S w0 a hS h
 refine gC h (zS (zx rfl fun b1 => za rfl (zn (zs (zS (zp (.fA rfl Kj) (zd rfl mr isAgg9 sizeOf9 Xm ?_)))))))
 refine zp (.binOp rfl rfl (fun _ => Xf _ _ _ _ _)) (zn ?_); intro a w h
 refine cW ?_
 refine Zb h rfl (fun hc10 => ?_) (fun hc10 => (by exfalso; have hb : Kt n = ⟨#[]⟩ := Vn oo; rw [hb] at hc10; exact absurd hc10 dd))
 refine gC h (zS (zp (.fA rfl Vr) (zd rfl mr isAgg36 sizeOf36 Ye ?_))); clear h; intro a w h
 rw [Qh hlt] at h
 refine gL h (zw [_, _] rfl call165 (C_FU2 n hlt) (za rfl (zn (zt ?_)))); clear h; intro a w h
 exact Zbw h
end
section
def Zfx (n : Nat) : Nat → List UInt8
 | 0 => []
 | k + 1 => UInt8.ofNat (48 + n / 10 ^ k % 10) :: Zfx n k
def Qao (n k : Nat) : ByteArray := ⟨(Zfx n k).toArray⟩
theorem Zrv (n : Nat) : ∀ k, (Zfx n k).length = k
 | 0 => rfl
 | k + 1 => congrArg (· + 1) (Zrv n k)
theorem Zne (n k : Nat) : (Qao n k).size = k := by show (Zfx n k).toArray.size = k; rw [List.size_toArray, Zrv]
theorem Zd3 (n : Nat) : ∀ k, Zfx n (k + 1) = Zfx (n / 10) k ++ [UInt8.ofNat (48 + n % 10)]
 | 0 => by simp [Zfx]
 | k + 1 => by
  rw [Zfx, Zd3 n k, Zfx, List.cons_append]
  congr 2
  rw [Nat.div_div_eq_div_mul, Nat.pow_succ, Nat.mul_comm]
theorem Zf9 (n : Nat) : Lib.decDigits n = Zfx n (Lib.nDigits n) := by
 induction n using Nat.strongRecOn with
 | _ n ih =>
  by_cases h : n < 10
  ·
   rw [Lib.decDigits_one h, Lib.nDigits_small h]
   simp [Zfx, Nat.mod_eq_of_lt h]
  · rw [Lib.decDigits, dif_neg h, Lib.nDigits_big h, Zd3, ih (n / 10) oo]
theorem Zxl (n k : Nat) : (ByteArray.mk #[UInt8.ofNat (48 + n / 10 ^ k % 10)]) ++ Qao n k = Qao n (k + 1) := by
 apply ByteArray.ext
 rw [ByteArray.data_append]
 apply Array.ext'
 simp [Qao, Zfx]
theorem Zgb : ∀ (k n : Nat), 10 ^ k ≤ n → Lib.decDigits n = Lib.decDigits (n / 10 ^ k) ++ Zfx n k
 | 0, n, _ => by rw [Nat.pow_zero, Nat.div_one, Zfx, List.append_nil]
 | k + 1, n, h => by
  have h1 : 10 ^ k * 10 ≤ n := by rw [← Nat.pow_succ]; exact h
  have h0 : 0 < 10 ^ k := Nat.pow_pos dd
  have h10 : ¬ n < 10 := oo
  have e : Lib.decDigits n = Lib.decDigits (n / 10) ++ [UInt8.ofNat (48 + n % 10)] := by rw [Lib.decDigits, dif_neg h10]
  rw [e, Zd3, ← List.append_assoc, Zgb k (n / 10) ((Nat.le_div_iff_mul_le dd).2 h1), Nat.div_div_eq_div_mul, Nat.pow_succ, Nat.mul_comm 10]
theorem Zrt (r m : Nat) (h : r < 10 ^ m) : ∀ a, Zfx r (m + a) = List.replicate a 48 ++ Zfx r m
 | 0 => rfl
 | a + 1 => by
  rw [← Nat.add_assoc, Zfx, Zrt r m h a, List.replicate_succ, List.cons_append]
  have : r / 10 ^ (m + a) = 0 := Nat.div_eq_of_lt (Nat.lt_of_lt_of_le h (Nat.pow_le_pow_right dd oo))
  rw [this]; rfl
theorem Qf5 {r k : Nat} (h : r < 10 ^ (k + 1)) : List.replicate (k + 1 - Lib.nDigits r) 48 ++ Lib.decDigits r = Zfx r (k + 1) := by
 have h1 := Zcp h
 have h2 := Zrt r (Lib.nDigits r) (Lib.lt_pow_nDigits r) (k + 1 - Lib.nDigits r)
 rw [Zf9, ← h2]
 congr 1; omega
theorem Zru : ∀ (k n : Nat), Zfx (n % 10 ^ k) k = Zfx n k
 | 0, _ => rfl
 | k + 1, n => by
  rw [Zd3, Zd3]
  have e1 : n % 10 ^ (k + 1) / 10 = n / 10 % 10 ^ k := by rw [Nat.pow_succ, Nat.mul_comm, Nat.mod_mul_right_div_self]
  have e2 : n % 10 ^ (k + 1) % 10 = n % 10 := by rw [Nat.pow_succ, Nat.mul_comm, Nat.mod_mul_right_mod]
  rw [e1, e2, Zru k (n / 10)]
theorem Zrw (n a : Nat) : ∀ b, Zfx n (a + b) = Zfx (n / 10 ^ a) b ++ Zfx n a
 | 0 => rfl
 | b + 1 => by
  rw [← Nat.add_assoc, Zfx, Zrw n a b, Zfx, List.cons_append]
  congr 3
  rw [Nat.div_div_eq_div_mul, ← Nat.pow_add]
def Zfh (m : Nat) : ByteArray := if m / 1000000000 = 0 then dB m else Qao m 9
def prt (n : Nat) : Nat → List ByteArray
 | 0 => []
 | i + 1 => prt n i ++ [Zfh (n / 10 ^ (9 * i))]
theorem Zk7 (n : Nat) : ∀ i, (prt n i).length = i
 | 0 => rfl
 | i + 1 => by rw [prt, List.length_append, Zk7 n i]; rfl
def Qec (l : List ByteArray) : List UInt8 := l.flatMap (·.data.toList)
theorem Zy5 (n : Nat) : ∀ i, n / 10 ^ (9 * i) ≠ 0 → Qec (prt n i).reverse = Zfx n (9 * i)
 | 0, _ => rfl
 | i + 1, h => by
  have e : n / 10 ^ (9 * (i + 1)) = n / 10 ^ (9 * i) / 1000000000 := by
   rw [Nat.div_div_eq_div_mul, show 9 * (i + 1) = 9 * i + 9 by omega, Nat.pow_add]
  rw [e] at h
  have h0 : n / 10 ^ (9 * i) ≠ 0 := fun h1 => h (by rw [h1])
  have ih := Zy5 n i h0
  rw [prt, List.reverse_append, List.reverse_singleton, List.singleton_append]
  show (Zfh (n / 10 ^ (9 * i))).data.toList ++ Qec (prt n i).reverse = _
  rw [ih, Zfh, if_neg h, show 9 * (i + 1) = 9 * i + 9 by omega, Zrw]; rfl
theorem Qg9 {n i : Nat} (h : n / 10 ^ (9 * i) ≠ 0) (h2 : n / 10 ^ (9 * (i + 1)) = 0) : Qec (prt n (i + 1)).reverse = Lib.decDigits n := by
 have e : n / 10 ^ (9 * (i + 1)) = n / 10 ^ (9 * i) / 1000000000 := by
  rw [Nat.div_div_eq_div_mul, show 9 * (i + 1) = 9 * i + 9 by omega, Nat.pow_add]
 rw [e] at h2
 rw [prt, List.reverse_append, List.reverse_singleton, List.singleton_append]
 show (Zfh (n / 10 ^ (9 * i))).data.toList ++ Qec (prt n i).reverse = _
 have hle : 10 ^ (9 * i) ≤ n := by
  rcases Nat.lt_or_ge n (10 ^ (9 * i)) with h3 | h3
  · exact absurd (Nat.div_eq_of_lt h3) h
  · exact h3
 rw [Zy5 n i h, Zfh, if_pos h2, Zgb (9 * i) n hle]; rfl
theorem Zid (n : Nat) : n < 2 ^ (32 * (wds n).length) := by
 have h := Ve (Wd.wds n)
 rw [Qu] at h
 rw [Nat.pow_mul]; exact h
theorem Zww {n i : Nat} (h : n / 10 ^ (9 * i) ≠ 0) : i < 2 * (wds n).length + 1 := by
 have hle : 10 ^ (9 * i) ≤ n := by
  rcases Nat.lt_or_ge n (10 ^ (9 * i)) with h3 | h3
  · exact absurd (Nat.div_eq_of_lt h3) h
  · exact h3
 have h1 : 2 ^ (16 * i) ≤ 10 ^ (9 * i) := by
  rw [Nat.pow_mul, Nat.pow_mul]; exact Nat.pow_le_pow_left dd i
 have h2 := Nat.lt_of_le_of_lt (Nat.le_trans h1 hle) (Zid n)
 have h3 := (Nat.pow_lt_pow_iff_right (show 1 < 2 by decide)).1 h2
 omega
theorem Zpp (n : Nat) : Lib.nDigits n ≤ 10 * (wds n).length + 1 := by
 refine Zcp ?_
 have h1 := Zid n
 have h2 : 2 ^ (32 * (wds n).length) ≤ 10 ^ (10 * (wds n).length) := by
  rw [Nat.pow_mul, Nat.pow_mul]; exact Nat.pow_le_pow_left dd _
 have h3 : 10 ^ (10 * (wds n).length) ≤ 10 ^ (10 * (wds n).length + 1) := Nat.pow_le_pow_right dd oo
 omega
theorem Zh6 (n : Nat) : (dB n).size ≤ 10 * (wds n).length + 1 := by rw [Zjk]; exact Zpp n
theorem Zu3 (m : Nat) : (Zfh m).size ≤ 9 := by
 unfold Zfh
 have h9 : (10 : Nat) ^ (8 + 1) = 1000000000 := rfl
 split
 ·
  rename_i h
  rw [Zjk]; exact Zcp (k := 8) oo
 · rw [Zne]; exact Nat.le_refl _
theorem Zrg (n : Nat) : ∀ i, ∀ x ∈ prt n i, x.size ≤ 9
 | 0, x, h => nomatch h
 | i + 1, x, h => by
  rw [prt] at h
  rcases List.mem_append.1 h with h | h
  · exact Zrg n i x h
  · rw [List.mem_singleton.1 h]; exact Zu3 _
end
end Go.Proofs.YtddhlkfpdjmplaaGreatDoor
