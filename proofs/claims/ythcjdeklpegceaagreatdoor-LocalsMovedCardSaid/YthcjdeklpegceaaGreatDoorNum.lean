/- How the program keeps its numbers: natural numbers, integers, fractions as values. By an AI agent. -/
import Derived.Tactics
set_option linter.unusedVariables false
set_option linter.unusedSimpArgs false
set_option linter.unusedSectionVars false
namespace Go.Fx
open Go
def wds : Nat → List Nat
 | 0 => []
 | n + 1 => ((n + 1) % 4294967296) :: wds ((n + 1) / 4294967296)
termination_by n => n
decreasing_by omega
def Qb : List Nat → Nat
 | [] => 0
 | x :: l => x + 4294967296 * Qb l
def bytesOf : List Nat → List UInt8
 | [] => []
 | x :: l => UInt8.ofNat x :: UInt8.ofNat (x / 256) :: UInt8.ofNat (x / 65536) :: UInt8.ofNat (x / 16777216) :: bytesOf l
def Kv (n : Nat) : Int := if n < 18446744073709551616 then (n : Int) else 0
def Yx (n : Nat) : ByteArray := if n < 18446744073709551616 then ⟨#[]⟩ else ⟨(bytesOf (wds n)).toArray⟩
abbrev Vw (n : Nat) : Value := .agg #[.int .u64 (Kv n), .string (Yx n)]
abbrev encZ (z : Int) : Value := .agg #[.int .u64 (Kv z.natAbs), .string (Yx z.natAbs), .bool (decide (z < 0))]
abbrev Zr (q : Rat) : Value := .agg #[.int .u64 (Kv q.num.natAbs), .string (Yx q.num.natAbs), .bool (decide (q.num < 0)), .int .u64 (Kv (q.den - 1)), .string (Yx (q.den - 1))]
theorem Zau : wds 0 = [] := by unfold wds; rfl
theorem Zc1 {n : Nat} (h : n ≠ 0) : wds n = (n % 4294967296) :: wds (n / 4294967296) := by
 cases n with
 | zero => exact absurd rfl h
 | succ n => rw [wds]
theorem Jl : ∀ n : Nat, Qb (wds n) = n := by
 intro n
 induction n using Nat.strongRecOn with
 | _ n ih =>
  by_cases h : n = 0
  · subst h; rw [Zau]; rfl
  ·
   rw [Zc1 h, Qb, ih (n / 4294967296) (by omega)]
   omega
theorem Ztp : ∀ (n : Nat), ∀ x ∈ wds n, x < 4294967296 := by
 intro n
 induction n using Nat.strongRecOn with
 | _ n ih =>
  by_cases h : n = 0
  · subst h; rw [Zau]; intro x hx; cases hx
  ·
   rw [Zc1 h]
   intro x hx
   rcases List.mem_cons.1 hx with rfl | hx
   · omega
   · exact ih _ (by omega) x hx
theorem bytesOf_length : ∀ l, (bytesOf l).length = 4 * l.length
 | [] => rfl
 | x :: l => by simp [bytesOf, bytesOf_length l]; omega
theorem Zja : ∀ (l : List Nat) (i k : Nat), i < l.length → k < 4 → ((bytesOf l)[4 * i + k]?).map UInt8.toNat = (l[i]?).map (fun x => x / 256 ^ k % 256)
 | [], i, k, h, _ => by simp at h
 | x :: l, 0, k, _, hk => by
  match k, hk with
  | 0, _ => simp [bytesOf]
  | 1, _ => simp [bytesOf]
  | 2, _ => simp [bytesOf]
  | 3, _ => simp [bytesOf]
 | x :: l, i + 1, k, h, hk => by
  have e : 4 * (i + 1) + k = (4 * i + k) + 1 + 1 + 1 + 1 := by omega
  rw [e]
  simp only [bytesOf, List.getElem?_cons_succ]
  exact Zja l i k (by simpa using h) hk
theorem Gj {n : Nat} (h : n < 18446744073709551616) : (wds n).length ≤ 2 := by
 by_cases h0 : n = 0
 · subst h0; simp [Zau]
 ·
  rw [Zc1 h0]
  by_cases h1 : n / 4294967296 = 0
  · simp [h1, Zau]
  ·
   rw [Zc1 h1]
   have : n / 4294967296 / 4294967296 = 0 := by omega
   simp [this, Zau]
theorem Ztr {n : Nat} (h : ¬ n < 18446744073709551616) : 3 ≤ (wds n).length := by
 rw [Zc1 (by omega), Zc1 (by omega), Zc1 (by omega)]
 simp
theorem Zi9 : ∀ {l m : List Nat}, (∀ x ∈ l, x < 4294967296) → (∀ x ∈ m, x < 4294967296) → bytesOf l = bytesOf m → l = m
 | [], [], _, _, _ => rfl
 | [], x :: m, _, _, h => by simp [bytesOf] at h
 | x :: l, [], _, _, h => by simp [bytesOf] at h
 | x :: l, y :: m, hl, hm, h => by
  simp only [bytesOf, List.cons.injEq] at h
  obtain ⟨h0, h1, h2, h3, h4⟩ := h
  have e0 := congrArg UInt8.toNat h0
  have e1 := congrArg UInt8.toNat h1
  have e2 := congrArg UInt8.toNat h2
  have e3 := congrArg UInt8.toNat h3
  simp at e0 e1 e2 e3
  have hx := hl x List.mem_cons_self
  have hy := hm y List.mem_cons_self
  have : x = y := by omega
  rw [this, Zi9 (fun z hz => hl z (List.mem_cons_of_mem _ hz)) (fun z hz => hm z (List.mem_cons_of_mem _ hz)) h4]
theorem Ko {n : Nat} (h : n < 18446744073709551616) : Yx n = ⟨#[]⟩ := by simp [Yx, h]
theorem Qm {n : Nat} (h : n < 18446744073709551616) : Kv n = n := by simp [Kv, h]
theorem Zeq {n : Nat} (h : ¬ n < 18446744073709551616) : Yx n = ⟨(bytesOf (wds n)).toArray⟩ := by simp [Yx, h]
theorem Zsh {n : Nat} (h : ¬ n < 18446744073709551616) : Kv n = 0 := by simp [Kv, h]
theorem Zd9 (n : Nat) : (Yx n).size = if n < 18446744073709551616 then 0 else 4 * (wds n).length := by
 unfold Yx; split
 · rfl
 · simp [ByteArray.size, bytesOf_length]
theorem Jg {n : Nat} : (Yx n = ⟨#[]⟩) ↔ n < 18446744073709551616 := by
 constructor
 ·
  intro h
  refine Classical.byContradiction fun hn => ?_
  have h1 := Zd9 n
  rw [h, if_neg hn] at h1
  have := Ztr hn
  have h0 : (ByteArray.mk #[]).size = 0 := rfl
  omega
 · exact Ko
theorem Zls {n m : Nat} (h1 : Kv n = Kv m) (h2 : Yx n = Yx m) : n = m := by
 by_cases hn : n < 18446744073709551616
 ·
  have hm : m < 18446744073709551616 := by rw [← Jg, ← h2, Jg]; exact hn
  rw [Qm hn, Qm hm] at h1; omega
 ·
  have hm : ¬ m < 18446744073709551616 := by rw [← Jg, ← h2, Jg]; exact hn
  rw [Zeq hn, Zeq hm] at h2
  have h3 : bytesOf (wds n) = bytesOf (wds m) := by simpa using h2
  have := Zi9 (Ztp n) (Ztp m) h3
  rw [← Jl n, this, Jl]
end Go.Fx
