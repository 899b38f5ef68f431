/- Written by a program of ours (gen.py) out of short specifications. By an AI agent. -/
import Derived.Test.YtddhlkfpdjmplaaGreatDoorTextg2
set_option linter.unusedVariables false
set_option linter.unusedSimpArgs false
set_option maxRecDepth 4000
namespace Go.Proofs.YtddhlkfpdjmplaaGreatDoor
open Go Go.Proofs Go.Fx
attribute [local irreducible] Oper.wp Code.wp wpList Fx.Head wpOp
theorem decDigits_ne (n : Nat) : Lib.decDigits n ≠ [] := fun e => by
  have h := congrArg List.length e
  rw [Lib.decDigits_length] at h
  by_cases h1 : n < 10
  · rw [Lib.nDigits_small h1] at h; cases h
  · rw [Lib.nDigits_big h1] at h; cases h
theorem dig_inj {a b : Nat} (ha : a < 10) (hb : b < 10) (h : UInt8.ofNat (48 + a) = UInt8.ofNat (48 + b)) : a = b := by
  have h1 := congrArg UInt8.toNat h
  simp only [UInt8.toNat_ofNat'] at h1
  omega
theorem decDigits_inj : ∀ n m : Nat, Lib.decDigits n = Lib.decDigits m → n = m := by
  intro n
  induction n using Nat.strongRecOn with
  | _ n ih =>
    intro m h
    by_cases hn : n < 10
    · by_cases hm : m < 10
      · rw [Lib.decDigits_one hn, Lib.decDigits_one hm] at h
        exact dig_inj hn hm (List.cons.inj h).1
      · exfalso
        have e : Lib.decDigits m = Lib.decDigits (m / 10) ++ [UInt8.ofNat (48 + m % 10)] := by rw [Lib.decDigits, dif_neg hm]
        rw [Lib.decDigits_one hn, e] at h
        have h2 := congrArg List.length h
        have h3 := List.length_pos_iff.2 (decDigits_ne (m / 10))
        simp only [List.length_append, List.length_cons, List.length_nil] at h2; omega
    · by_cases hm : m < 10
      · exfalso
        have e : Lib.decDigits n = Lib.decDigits (n / 10) ++ [UInt8.ofNat (48 + n % 10)] := by rw [Lib.decDigits, dif_neg hn]
        rw [Lib.decDigits_one hm, e] at h
        have h2 := congrArg List.length h
        have h3 := List.length_pos_iff.2 (decDigits_ne (n / 10))
        simp only [List.length_append, List.length_cons, List.length_nil] at h2; omega
      · have e : Lib.decDigits n = Lib.decDigits (n / 10) ++ [UInt8.ofNat (48 + n % 10)] := by rw [Lib.decDigits, dif_neg hn]
        have e2 : Lib.decDigits m = Lib.decDigits (m / 10) ++ [UInt8.ofNat (48 + m % 10)] := by rw [Lib.decDigits, dif_neg hm]
        rw [e, e2] at h
        obtain ⟨h1, h2⟩ := List.append_inj' h rfl
        have h3 := ih (n / 10) (by omega) (m / 10) h1
        have h4 := dig_inj (Nat.mod_lt n (by decide)) (Nat.mod_lt m (by decide)) (List.cons.inj h2).1
        omega
def isD (b : UInt8) : Prop := 48 ≤ b.toNat ∧ b.toNat ≤ 57
theorem decDigits_D : ∀ n : Nat, ∀ b ∈ Lib.decDigits n, isD b := by
  intro n
  induction n using Nat.strongRecOn with
  | _ n ih =>
    have key : ∀ a, a < 10 → isD (UInt8.ofNat (48 + a)) := fun a ha => by
      unfold isD; rw [UInt8.toNat_ofNat']; omega
    by_cases hn : n < 10
    · rw [Lib.decDigits_one hn]; intro b hb; rw [List.mem_singleton] at hb; subst hb; exact key n hn
    · have e : Lib.decDigits n = Lib.decDigits (n / 10) ++ [UInt8.ofNat (48 + n % 10)] := by rw [Lib.decDigits, dif_neg hn]
      rw [e]
      intro b hb
      rcases List.mem_append.1 hb with hb | hb
      · exact ih (n / 10) (by omega) b hb
      · rw [List.mem_singleton] at hb; subst hb; exact key _ (Nat.mod_lt _ (by decide))
theorem span_inj {C : UInt8 → Prop} : ∀ {u u' v v' : List UInt8}, (∀ b ∈ u, C b) → (∀ b ∈ u', C b) → (∀ b w, v = b :: w → ¬ C b) → (∀ b w, v' = b :: w → ¬ C b) → u ++ v = u' ++ v' → u = u' ∧ v = v'
  | [], [], v, v', _, _, _, _, h => ⟨rfl, h⟩
  | [], b :: u', v, v', _, h2, h3, _, h => by exact absurd (h2 b List.mem_cons_self) (h3 b (u' ++ v') h)
  | b :: u, [], v, v', h1, _, _, h4, h => by exact absurd (h1 b List.mem_cons_self) (h4 b (u ++ v) h.symm)
  | b :: u, b' :: u', v, v', h1, h2, h3, h4, h => by
    obtain ⟨e, h⟩ := List.cons.inj h
    obtain ⟨e1, e2⟩ := span_inj (fun x hx => h1 x (List.mem_cons_of_mem _ hx)) (fun x hx => h2 x (List.mem_cons_of_mem _ hx)) h3 h4 h
    exact ⟨by rw [e, e1], e2⟩
def qB (x : Rat) : List UInt8 := Lib.decDigits x.num.natAbs ++ (if x.den = 1 then [] else 47 :: Lib.decDigits x.den)
theorem txtQ_B {x : Rat} (h : 0 ≤ x.num) : (txtQ x).data.toList = qB x := by
  have hz : txtZ x.num = dB x.num.natAbs := by unfold txtZ; rw [if_neg (by omega)]
  unfold txtQ qB
  rw [hz]
  unfold dB
  by_cases hd : x.den = 1
  · rw [if_pos hd, if_pos hd]; simp
  · rw [if_neg hd, if_neg hd, ByteArray.data_append, ByteArray.data_append]; simp
theorem qB_inj {x y : Rat} (hx : 0 ≤ x.num) (hy : 0 ≤ y.num) (h : qB x = qB y) : x = y := by
  unfold qB at h
  have hb : ∀ (d : Nat) (b : UInt8) (w : List UInt8), (if d = 1 then [] else 47 :: Lib.decDigits d) = b :: w → ¬ isD b := fun d b w he => by
    split at he
    · cases he
    · rw [← (List.cons.inj he).1]; unfold isD; decide
  obtain ⟨h1, h2⟩ := span_inj (decDigits_D _) (decDigits_D _) (hb _) (hb _) h
  have hn := decDigits_inj _ _ h1
  have hd : x.den = y.den := by
    split at h2
    · split at h2
      · omega
      · cases h2
    · split at h2
      · cases h2
      · exact decDigits_inj _ _ (List.cons.inj h2).2
  exact Rat.ext (by omega) hd
theorem qB_ne (x : Rat) : qB x ≠ [] := fun e => decDigits_ne _ (List.append_eq_nil_iff.1 e).1
def isN (b : UInt8) : Prop := 47 ≤ b.toNat ∧ b.toNat ≤ 57
def ltB (i j : Nat) : List UInt8 := (joinB (letL ⟨#[120]⟩ i ++ letL ⟨#[121]⟩ j) ⟨#[42]⟩).data.toList
def tmB' (t : Tm) : List UInt8 := if ab t.c = ((1 : Int) : Rat) ∧ t.i + t.j ≠ 0 then ltB t.i t.j else qB (ab t.c) ++ (if t.i + t.j = 0 then [] else 42 :: ltB t.i t.j)
theorem join_one (x s : List UInt8) : Lib.join [x] s = x := by simp [Lib.join, List.intercalate]
theorem join_two (x y s : List UInt8) (l : List (List UInt8)) : Lib.join (x :: y :: l) s = x ++ (s ++ Lib.join (y :: l) s) := by simp [Lib.join, List.intercalate]
theorem letL_nil {s : ByteArray} {n : Nat} : letL s n = [] ↔ n = 0 := by
  unfold letL; split
  · simp_all
  · split <;> simp_all
theorem tmTx_B (t : Tm) : (tmTx txtQ t).data.toList = tmB' t := by
  have hq : (txtQ (ab t.c)).data.toList = qB (ab t.c) := txtQ_B (by rw [(ab_num t.c).1]; omega)
  unfold tmTx tmB' hdB
  by_cases h1 : ab t.c = ((1 : Int) : Rat) ∧ t.i + t.j ≠ 0
  · rw [if_pos h1, if_neg (by rw [decide_eq_true h1.1, decide_eq_false h1.2]; decide)]; rfl
  · rw [if_neg h1, if_pos (by
      simp only [Bool.or_eq_true, Bool.not_eq_true', decide_eq_false_iff_not, decide_eq_true_eq]
      by_cases h2 : ab t.c = ((1 : Int) : Rat)
      · exact .inr (Decidable.of_not_not (fun h3 => h1 ⟨h2, h3⟩))
      · exact .inl h2)]
    rw [List.singleton_append, List.cons_append]
    unfold joinB ltB joinB
    rw [← hq]
    by_cases h0 : t.i + t.j = 0
    · have e1 : letL ⟨#[120]⟩ t.i = [] := letL_nil.2 (by omega)
      have e2 : letL ⟨#[121]⟩ t.j = [] := letL_nil.2 (by omega)
      rw [if_pos h0, e1, e2]
      simp [join_one]
    · rw [if_neg h0]
      rcases hl : letL ⟨#[120]⟩ t.i ++ letL ⟨#[121]⟩ t.j with _ | ⟨y, l⟩
      · exfalso
        obtain ⟨e1, e2⟩ := List.append_eq_nil_iff.1 hl
        exact h0 (by rw [letL_nil.1 e1, letL_nil.1 e2])
      · rw [List.map_cons, List.map_cons, join_two]; simp
def sgB (t : Tm) : List UInt8 := if t.c.num.sign < 0 then [32, 45, 32] else [32, 43, 32]
def tlB : List Tm → List UInt8
  | [] => []
  | t :: p => sgB t ++ (tmB' t ++ tlB p)
def fuB : List Tm → List UInt8
  | [] => []
  | t :: p => (if t.c.num.sign < 0 then [45] else []) ++ (tmB' t ++ tlB p)
theorem tlB_snoc (t : Tm) : ∀ p : List Tm, tlB (p ++ [t]) = tlB p ++ (sgB t ++ tmB' t)
  | [] => by simp [tlB]
  | s :: p => by rw [List.cons_append, tlB, tlB_snoc t p, tlB]; simp
theorem fuB_snoc (t : Tm) (s : Tm) (p : List Tm) : fuB (s :: p ++ [t]) = fuB (s :: p) ++ (sgB t ++ tmB' t) := by
  rw [List.cons_append, fuB, tlB_snoc, fuB]; simp
theorem txP_B (p : List Tm) : ∀ k, k ≤ p.length → (txP txtQ p k).data.toList = fuB (p.take k)
  | 0, _ => rfl
  | k + 1, hk => by
    have ih := txP_B p k (by omega)
    have ht := tmTx_B (p.getD k T0)
    rw [txP, ByteArray.data_append, Array.toList_append, ht, take_snoc p (show k < p.length by omega)]
    rcases hp : p.take k with _ | ⟨s, r⟩
    · have hk0 : k = 0 := by
        have := congrArg List.length hp
        rw [List.length_take, List.length_nil] at this; omega
      subst hk0
      show _ = fuB [p.getD 0 T0]
      rw [fuB, tlB, List.append_nil]
      congr 1
      rw [show decide (0 = 0) = true from rfl]
      by_cases hs : (p.getD 0 T0).c.num.sign < 0
      · rw [decide_eq_true hs, if_pos hs]; rfl
      · rw [decide_eq_false hs, if_neg hs]; rfl
    · have hk0 : k ≠ 0 := fun e => by subst e; simp at hp
      rw [hp] at ih
      rw [fuB_snoc, ← ih, decide_eq_false hk0, ← List.append_assoc]
      congr 1
      unfold sgB
      by_cases hs : (p.getD k T0).c.num.sign < 0
      · rw [decide_eq_true hs, if_pos hs, preP, ByteArray.data_append, Array.toList_append]
      · rw [decide_eq_false hs, if_neg hs, preP, ByteArray.data_append, Array.toList_append]
theorem txtP_B (p : List Tm) : (txtP txtQ p).data.toList = if fuB p = [] then [48] else fuB p := by
  have h := txP_B p p.length (Nat.le_refl _)
  rw [List.take_length] at h
  unfold txtP
  by_cases h0 : fuB p = []
  · rw [if_pos h0, if_pos (by apply ByteArray.ext; apply Array.ext'; rw [h, h0])]
  · rw [if_neg h0, if_neg (fun e => h0 (by rw [← h, e])), h]
def OkD (t : Tm) : Prop := t.i < 4 ∧ t.j < 4 ∧ t.c ≠ 0
theorem sign_neg (c : Rat) : c.num.sign < 0 ↔ c < 0 := by
  have h1 := @Rat.num_nonneg c
  have h2 : c.num.sign < 0 ↔ c.num < 0 := by
    rcases Int.lt_trichotomy c.num 0 with h | h | h
    · rw [Int.sign_eq_neg_one_of_neg h]; omega
    · rw [h]; decide
    · rw [Int.sign_eq_one_of_pos h]; omega
  rw [h2]
  constructor
  · intro h; have : ¬ 0 ≤ c := fun h3 => by rw [← h1] at h3; omega
    grind
  · intro h; have : ¬ 0 ≤ c.num := fun h3 => by rw [h1] at h3; grind
    omega
end Go.Proofs.YtddhlkfpdjmplaaGreatDoor
