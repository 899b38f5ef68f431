/- Walks of functions. By an AI agent. -/
import Derived.Test.YtddhlkfpdjmplaaGreatDoorText2
set_option linter.unusedVariables false
set_option linter.unusedSimpArgs false
set_option maxRecDepth 4000
namespace Go.Proofs.YtddhlkfpdjmplaaGreatDoor
open Go Go.Proofs Go.Fx Tryz
attribute [local irreducible] Oper.wp Code.wp wpList Fx.Head wpOp
section
def TabF : Qh where
 p X w := ∃ g, Tryz.prog.globalNamed "internal/strconv.uint64pow10" = some g ∧ ¬ X g ∧ g < w.heap.size ∧ Lib.TabIs Tryz.prog w "internal/strconv.uint64pow10" .u64 Lib.pow10Tab
 st X X' w w' h hk hs hX := by
  obtain ⟨g, hg, hx, hlt, ht⟩ := h
  refine ⟨g, hg, fun h' => ?_, oo, ?_⟩
  ·
   rcases hX g h' with h1 | h1
   · exact hx h1
   · omega
  ·
   unfold Lib.TabIs World.var? at *
   simp only [hg, Option.bind_some] at ht ⊢
   rw [hk g hlt hx]; exact ht
theorem below_grow (w : World) (k : Nat) (os : Array Obj) : Go.RowKit.Below w.heap.size w (Sort.grow (w.drewN k) os) := ⟨rfl, rfl, rfl, by simp [Sort.grow, World.drewN], fun b hb => by
 show (w.heap ++ os)[b]? = _
 rw [Array.getElem?_append_left hb]⟩
def dB (n : Nat) : ByteArray := ⟨(Lib.decDigits n).toArray⟩
theorem Qba {n : Nat} (h : n < 100) : dB n = Zmi n := by
 unfold dB Zmi
 split
 · rw [Lib.decDigits_one (by assumption)]
 · rw [Lib.decDigits_two (by assumption) h]
theorem Zjd (n : Nat) : (dB n).size = Lib.nDigits n := by
 show (Lib.decDigits n).toArray.size = _
 rw [List.size_toArray, Lib.decDigits_length]
theorem Zci {k n : Nat} (h : n < 10 ^ (k + 1)) : Lib.nDigits n ≤ k + 1 := by
 induction k generalizing n with
 | zero => rw [Lib.nDigits_small (by simpa using h)]; exact Nat.le_refl _
 | succ k ih =>
  by_cases h1 : n < 10
  · rw [Lib.nDigits_small h1]; omega
  ·
   rw [Lib.nDigits_big h1]
   have := ih (n := n / 10) (by rw [Nat.pow_succ] at h; omega)
   omega
def Zza (z : Int) : ByteArray := if z < 0 then ⟨#[45]⟩ ++ dB z.natAbs else dB z.natAbs
def txtQ (x : Rat) : ByteArray := if x.den = 1 then Zza x.num else Zza x.num ++ ⟨#[47]⟩ ++ dB x.den
theorem Zkx (c : UInt8) : (ByteArray.mk #[c]).size = 1 := rfl
theorem C_iFU2 (n : Nat) (hn : n < 18446744073709551616) : Zae Tryz.prog 199 [.int .u64 (n : Int), .int .i64 10] [TabF] (.string (dB n)) := by
 intro X w hX hΦ
 by_cases h : n < 100
 ·
  refine (C_iFU n h X w hX (fun _ h => nomatch h)).mono ?_
  rintro e w' ⟨v, Ψ, rfl, ⟨rfl, rfl⟩, hb, _⟩
  exact ⟨_, [], rfl, ⟨by rw [Qba h], rfl⟩, hb, fun _ h => nomatch h⟩
 ·
  obtain ⟨g, hg, _, _, ht⟩ := hΦ TabF (List.Mem.head _)
  refine (K_FU n oo hn w ht).mono ?_
  rintro e w' ⟨rfl, k, os, rfl⟩
  exact ⟨_, [], rfl, ⟨rfl, rfl⟩, below_grow w k os, fun _ h => nomatch h⟩
theorem C_FU2 (n : Nat) (hlt : n < 18446744073709551616) : Zae Tryz.prog 165 [.int .u64 (n : Int), .int .i64 10] [TabF] (.string (dB n)) := by
 refine fn_intro func165 rfl ntmps165 nb ?_
 intro S w0 a hS h
 refine gC h (zS (za rfl (zn (zS (zm rfl (zm rfl (zw [_, _] rfl call199 (C_iFU2 n hlt) (za rfl (zn (zt ?_)))))))))); clear h; intro a w h
 exact Zao h
theorem Qbt (n : Nat) (hlt : n < 18446744073709551616) : Zae Tryz.prog 119 [Vg n] [TabF] (.string (dB n)) := by
 refine fn_intro func119 rfl ntmps119 nb ?_
 intro S w0 a hS h
 refine gC h (zS (zx rfl fun b1 => za rfl (zn (zs (zS (zp (.fA rfl Vy) (zd rfl mr isAgg9 sizeOf9 Xn ?_)))))))
 refine zp (.binOp rfl rfl (fun _ => Vl _ _ _ _ _)) (zn ?_); intro a w h
 refine cW ?_
 refine Zc h rfl (fun hc10 => ?_) (fun hc10 => (by exfalso; have hb : Zan n = ⟨#[]⟩ := Vi oo; rw [hb] at hc10; exact absurd hc10 dd))
 refine gC h (zS (zp (.fA rfl Vj) (zd rfl mr isAgg36 sizeOf36 Xy ?_))); clear h; intro a w h
 rw [Qi hlt] at h
 refine gL h (zw [_, _] rfl call165 (C_FU2 n hlt) (za rfl (zn (zt ?_)))); clear h; intro a w h
 exact Zao h
end
section
def Zft (n : Nat) : Nat → List UInt8
 | 0 => []
 | k + 1 => UInt8.ofNat (48 + n / 10 ^ k % 10) :: Zft n k
def Zzb (n k : Nat) : ByteArray := ⟨(Zft n k).toArray⟩
theorem Zru (n : Nat) : ∀ k, (Zft n k).length = k
 | 0 => rfl
 | k + 1 => congrArg (· + 1) (Zru n k)
theorem Zm6 (n k : Nat) : (Zzb n k).size = k := by show (Zft n k).toArray.size = k; rw [List.size_toArray, Zru]
theorem Zdq (n : Nat) : ∀ k, Zft n (k + 1) = Zft (n / 10) k ++ [UInt8.ofNat (48 + n % 10)]
 | 0 => by simp [Zft]
 | k + 1 => by
  rw [Zft, Zdq n k, Zft, List.cons_append]
  congr 2
  rw [Nat.div_div_eq_div_mul, Nat.pow_succ, Nat.mul_comm]
theorem Zf6 (n : Nat) : Lib.decDigits n = Zft n (Lib.nDigits n) := by
 induction n using Nat.strongRecOn with
 | _ n ih =>
  by_cases h : n < 10
  ·
   rw [Lib.decDigits_one h, Lib.nDigits_small h]
   simp [Zft, Nat.mod_eq_of_lt h]
  · rw [Lib.decDigits, dif_neg h, Lib.nDigits_big h, Zdq, ih (n / 10) oo]
theorem Zm7 (n k : Nat) : (ByteArray.mk #[UInt8.ofNat (48 + n / 10 ^ k % 10)]) ++ Zzb n k = Zzb n (k + 1) := by
 apply ByteArray.ext
 rw [ByteArray.data_append]
 apply Array.ext'
 simp [Zzb, Zft]
theorem Zf7 : ∀ (k n : Nat), 10 ^ k ≤ n → Lib.decDigits n = Lib.decDigits (n / 10 ^ k) ++ Zft n k
 | 0, n, _ => by rw [Nat.pow_zero, Nat.div_one, Zft, List.append_nil]
 | k + 1, n, h => by
  have h1 : 10 ^ k * 10 ≤ n := by rw [← Nat.pow_succ]; exact h
  have h0 : 0 < 10 ^ k := Nat.pow_pos dd
  have h10 : ¬ n < 10 := oo
  have e : Lib.decDigits n = Lib.decDigits (n / 10) ++ [UInt8.ofNat (48 + n % 10)] := by rw [Lib.decDigits, dif_neg h10]
  rw [e, Zdq, ← List.append_assoc, Zf7 k (n / 10) ((Nat.le_div_iff_mul_le dd).2 h1), Nat.div_div_eq_div_mul, Nat.pow_succ, Nat.mul_comm 10]
theorem Zrs (r m : Nat) (h : r < 10 ^ m) : ∀ a, Zft r (m + a) = List.replicate a 48 ++ Zft r m
 | 0 => rfl
 | a + 1 => by
  rw [← Nat.add_assoc, Zft, Zrs r m h a, List.replicate_succ, List.cons_append]
  have : r / 10 ^ (m + a) = 0 := Nat.div_eq_of_lt (Nat.lt_of_lt_of_le h (Nat.pow_le_pow_right dd oo))
  rw [this]; rfl
theorem Qdz {r k : Nat} (h : r < 10 ^ (k + 1)) : List.replicate (k + 1 - Lib.nDigits r) 48 ++ Lib.decDigits r = Zft r (k + 1) := by
 have h1 := Zci h
 have h2 := Zrs r (Lib.nDigits r) (Lib.lt_pow_nDigits r) (k + 1 - Lib.nDigits r)
 rw [Zf6, ← h2]
 congr 1; omega
theorem Zrt : ∀ (k n : Nat), Zft (n % 10 ^ k) k = Zft n k
 | 0, _ => rfl
 | k + 1, n => by
  rw [Zdq, Zdq]
  have e1 : n % 10 ^ (k + 1) / 10 = n / 10 % 10 ^ k := by rw [Nat.pow_succ, Nat.mul_comm, Nat.mod_mul_right_div_self]
  have e2 : n % 10 ^ (k + 1) % 10 = n % 10 := by rw [Nat.pow_succ, Nat.mul_comm, Nat.mod_mul_right_mod]
  rw [e1, e2, Zrt k (n / 10)]
theorem Zrv (n a : Nat) : ∀ b, Zft n (a + b) = Zft (n / 10 ^ a) b ++ Zft n a
 | 0 => rfl
 | b + 1 => by
  rw [← Nat.add_assoc, Zft, Zrv n a b, Zft, List.cons_append]
  congr 3
  rw [Nat.div_div_eq_div_mul, ← Nat.pow_add]
def Zda (m : Nat) : ByteArray := if m / 1000000000 = 0 then dB m else Zzb m 9
def prt (n : Nat) : Nat → List ByteArray
 | 0 => []
 | i + 1 => prt n i ++ [Zda (n / 10 ^ (9 * i))]
theorem Zk4 (n : Nat) : ∀ i, (prt n i).length = i
 | 0 => rfl
 | i + 1 => by rw [prt, List.length_append, Zk4 n i]; rfl
def Qce (l : List ByteArray) : List UInt8 := l.flatMap (·.data.toList)
theorem Zx4 (n : Nat) : ∀ i, n / 10 ^ (9 * i) ≠ 0 → Qce (prt n i).reverse = Zft n (9 * i)
 | 0, _ => rfl
 | i + 1, h => by
  have e : n / 10 ^ (9 * (i + 1)) = n / 10 ^ (9 * i) / 1000000000 := by
   rw [Nat.div_div_eq_div_mul, show 9 * (i + 1) = 9 * i + 9 by omega, Nat.pow_add]
  rw [e] at h
  have h0 : n / 10 ^ (9 * i) ≠ 0 := fun h1 => h (by rw [h1])
  have ih := Zx4 n i h0
  rw [prt, List.reverse_append, List.reverse_singleton, List.singleton_append]
  show (Zda (n / 10 ^ (9 * i))).data.toList ++ Qce (prt n i).reverse = _
  rw [ih, Zda, if_neg h, show 9 * (i + 1) = 9 * i + 9 by omega, Zrv]; rfl
theorem Qev {n i : Nat} (h : n / 10 ^ (9 * i) ≠ 0) (h2 : n / 10 ^ (9 * (i + 1)) = 0) : Qce (prt n (i + 1)).reverse = Lib.decDigits n := by
 have e : n / 10 ^ (9 * (i + 1)) = n / 10 ^ (9 * i) / 1000000000 := by
  rw [Nat.div_div_eq_div_mul, show 9 * (i + 1) = 9 * i + 9 by omega, Nat.pow_add]
 rw [e] at h2
 rw [prt, List.reverse_append, List.reverse_singleton, List.singleton_append]
 show (Zda (n / 10 ^ (9 * i))).data.toList ++ Qce (prt n i).reverse = _
 have hle : 10 ^ (9 * i) ≤ n := by
  rcases Nat.lt_or_ge n (10 ^ (9 * i)) with h3 | h3
  · exact absurd (Nat.div_eq_of_lt h3) h
  · exact h3
 rw [Zx4 n i h, Zda, if_pos h2, Zf7 (9 * i) n hle]; rfl
theorem Zie (n : Nat) : n < 2 ^ (32 * (wds n).length) := by
 have h := Yw (Wd.wds n)
 rw [Qv] at h
 rw [Nat.pow_mul]; exact h
theorem Zv7 {n i : Nat} (h : n / 10 ^ (9 * i) ≠ 0) : i < 2 * (wds n).length + 1 := by
 have hle : 10 ^ (9 * i) ≤ n := by
  rcases Nat.lt_or_ge n (10 ^ (9 * i)) with h3 | h3
  · exact absurd (Nat.div_eq_of_lt h3) h
  · exact h3
 have h1 : 2 ^ (16 * i) ≤ 10 ^ (9 * i) := by
  rw [Nat.pow_mul, Nat.pow_mul]; exact Nat.pow_le_pow_left dd i
 have h2 := Nat.lt_of_le_of_lt (Nat.le_trans h1 hle) (Zie n)
 have h3 := (Nat.pow_lt_pow_iff_right (show 1 < 2 by decide)).1 h2
 omega
theorem Zpf (n : Nat) : Lib.nDigits n ≤ 10 * (wds n).length + 1 := by
 refine Zci ?_
 have h1 := Zie n
 have h2 : 2 ^ (32 * (wds n).length) ≤ 10 ^ (10 * (wds n).length) := by
  rw [Nat.pow_mul, Nat.pow_mul]; exact Nat.pow_le_pow_left dd _
 have h3 : 10 ^ (10 * (wds n).length) ≤ 10 ^ (10 * (wds n).length + 1) := Nat.pow_le_pow_right dd oo
 omega
theorem Zlw (n : Nat) : (dB n).size ≤ 10 * (wds n).length + 1 := by rw [Zjd]; exact Zpf n
theorem Zus (m : Nat) : (Zda m).size ≤ 9 := by
 unfold Zda
 have h9 : (10 : Nat) ^ (8 + 1) = 1000000000 := rfl
 split
 ·
  rename_i h
  rw [Zjd]; exact Zci (k := 8) oo
 · rw [Zm6]; exact Nat.le_refl _
theorem Zrc (n : Nat) : ∀ i, ∀ x ∈ prt n i, x.size ≤ 9
 | 0, x, h => nomatch h
 | i + 1, x, h => by
  rw [prt] at h
  rcases List.mem_append.1 h with h | h
  · exact Zrc n i x h
  · rw [List.mem_singleton.1 h]; exact Zus _
end
end Go.Proofs.YtddhlkfpdjmplaaGreatDoor
