/- How the program keeps its numbers: natural numbers, integers, fractions as values. By an AI agent. -/
import Derived.Tactics
set_option linter.unusedVariables false
set_option linter.unusedSimpArgs false
set_option linter.unusedSectionVars false
namespace Go.Fx
open Go
def wds : Nat → List Nat
 | 0 => []
 | n + 1 => ((n + 1) % 4294967296) :: wds ((n + 1) / 4294967296)
termination_by n => n
decreasing_by omega
def Zt : List Nat → Nat
 | [] => 0
 | x :: l => x + 4294967296 * Zt l
def bytesOf : List Nat → List UInt8
 | [] => []
 | x :: l => UInt8.ofNat x :: UInt8.ofNat (x / 256) :: UInt8.ofNat (x / 65536) :: UInt8.ofNat (x / 16777216) :: bytesOf l
def Zet (n : Nat) : Int := if n < 18446744073709551616 then (n : Int) else 0
def Zan (n : Nat) : ByteArray := if n < 18446744073709551616 then ⟨#[]⟩ else ⟨(bytesOf (wds n)).toArray⟩
abbrev Vg (n : Nat) : Value := .agg #[.int .u64 (Zet n), .string (Zan n)]
abbrev encZ (z : Int) : Value := .agg #[.int .u64 (Zet z.natAbs), .string (Zan z.natAbs), .bool (decide (z < 0))]
abbrev Jf (q : Rat) : Value := .agg #[.int .u64 (Zet q.num.natAbs), .string (Zan q.num.natAbs), .bool (decide (q.num < 0)), .int .u64 (Zet (q.den - 1)), .string (Zan (q.den - 1))]
theorem Kw : wds 0 = [] := by unfold wds; rfl
theorem Zct {n : Nat} (h : n ≠ 0) : wds n = (n % 4294967296) :: wds (n / 4294967296) := by
 cases n with
 | zero => exact absurd rfl h
 | succ n => rw [wds]
theorem Qv : ∀ n : Nat, Zt (wds n) = n := by
 intro n
 induction n using Nat.strongRecOn with
 | _ n ih =>
  by_cases h : n = 0
  · subst h; rw [Kw]; rfl
  ·
   rw [Zct h, Zt, ih (n / 4294967296) (by omega)]
   omega
theorem Zu6 : ∀ (n : Nat), ∀ x ∈ wds n, x < 4294967296 := by
 intro n
 induction n using Nat.strongRecOn with
 | _ n ih =>
  by_cases h : n = 0
  · subst h; rw [Kw]; intro x hx; cases hx
  ·
   rw [Zct h]
   intro x hx
   rcases List.mem_cons.1 hx with rfl | hx
   · omega
   · exact ih _ (by omega) x hx
theorem bytesOf_length : ∀ l, (bytesOf l).length = 4 * l.length
 | [] => rfl
 | x :: l => by simp [bytesOf, bytesOf_length l]; omega
theorem Zjk : ∀ (l : List Nat) (i k : Nat), i < l.length → k < 4 → ((bytesOf l)[4 * i + k]?).map UInt8.toNat = (l[i]?).map (fun x => x / 256 ^ k % 256)
 | [], i, k, h, _ => by simp at h
 | x :: l, 0, k, _, hk => by
  match k, hk with
  | 0, _ => simp [bytesOf]
  | 1, _ => simp [bytesOf]
  | 2, _ => simp [bytesOf]
  | 3, _ => simp [bytesOf]
 | x :: l, i + 1, k, h, hk => by
  have e : 4 * (i + 1) + k = (4 * i + k) + 1 + 1 + 1 + 1 := by omega
  rw [e]
  simp only [bytesOf, List.getElem?_cons_succ]
  exact Zjk l i k (by simpa using h) hk
theorem Vs {n : Nat} (h : n < 18446744073709551616) : (wds n).length ≤ 2 := by
 by_cases h0 : n = 0
 · subst h0; simp [Kw]
 ·
  rw [Zct h0]
  by_cases h1 : n / 4294967296 = 0
  · simp [h1, Kw]
  ·
   rw [Zct h1]
   have : n / 4294967296 / 4294967296 = 0 := by omega
   simp [this, Kw]
theorem Zu8 {n : Nat} (h : ¬ n < 18446744073709551616) : 3 ≤ (wds n).length := by
 rw [Zct (by omega), Zct (by omega), Zct (by omega)]
 simp
theorem Zjj : ∀ {l m : List Nat}, (∀ x ∈ l, x < 4294967296) → (∀ x ∈ m, x < 4294967296) → bytesOf l = bytesOf m → l = m
 | [], [], _, _, _ => rfl
 | [], x :: m, _, _, h => by simp [bytesOf] at h
 | x :: l, [], _, _, h => by simp [bytesOf] at h
 | x :: l, y :: m, hl, hm, h => by
  simp only [bytesOf, List.cons.injEq] at h
  obtain ⟨h0, h1, h2, h3, h4⟩ := h
  have e0 := congrArg UInt8.toNat h0
  have e1 := congrArg UInt8.toNat h1
  have e2 := congrArg UInt8.toNat h2
  have e3 := congrArg UInt8.toNat h3
  simp at e0 e1 e2 e3
  have hx := hl x List.mem_cons_self
  have hy := hm y List.mem_cons_self
  have : x = y := by omega
  rw [this, Zjj (fun z hz => hl z (List.mem_cons_of_mem _ hz)) (fun z hz => hm z (List.mem_cons_of_mem _ hz)) h4]
theorem Vi {n : Nat} (h : n < 18446744073709551616) : Zan n = ⟨#[]⟩ := by simp [Zan, h]
theorem Qi {n : Nat} (h : n < 18446744073709551616) : Zet n = n := by simp [Zet, h]
theorem Zep {n : Nat} (h : ¬ n < 18446744073709551616) : Zan n = ⟨(bytesOf (wds n)).toArray⟩ := by simp [Zan, h]
theorem Zt2 {n : Nat} (h : ¬ n < 18446744073709551616) : Zet n = 0 := by simp [Zet, h]
theorem Zd5 (n : Nat) : (Zan n).size = if n < 18446744073709551616 then 0 else 4 * (wds n).length := by
 unfold Zan; split
 · rfl
 · simp [ByteArray.size, bytesOf_length]
theorem Qt {n : Nat} : (Zan n = ⟨#[]⟩) ↔ n < 18446744073709551616 := by
 constructor
 ·
  intro h
  refine Classical.byContradiction fun hn => ?_
  have h1 := Zd5 n
  rw [h, if_neg hn] at h1
  have := Zu8 hn
  have h0 : (ByteArray.mk #[]).size = 0 := rfl
  omega
 · exact Vi
theorem Zlr {n m : Nat} (h1 : Zet n = Zet m) (h2 : Zan n = Zan m) : n = m := by
 by_cases hn : n < 18446744073709551616
 ·
  have hm : m < 18446744073709551616 := by rw [← Qt, ← h2, Qt]; exact hn
  rw [Qi hn, Qi hm] at h1; omega
 ·
  have hm : ¬ m < 18446744073709551616 := by rw [← Qt, ← h2, Qt]; exact hn
  rw [Zep hn, Zep hm] at h2
  have h3 : bytesOf (wds n) = bytesOf (wds m) := by simpa using h2
  have := Zjj (Zu6 n) (Zu6 m) h3
  rw [← Qv n, this, Qv]
end Go.Fx
