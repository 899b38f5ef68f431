/- Written by a program of ours (gen.py) out of short specifications. By an AI agent. -/
import Derived.Test.YtealgpgmbflilaaGreatDoorTextg2
set_option linter.unusedVariables false
set_option linter.unusedSimpArgs false
set_option maxRecDepth 4000
namespace Go.Proofs.YtealgpgmbflilaaGreatDoor
open Go Go.Proofs Go.Fx
attribute [local irreducible] Oper.wp Code.wp wpList Fx.Head wpOp

/-! ### Texts are known by what they say -/
theorem decDigits_ne (n : Nat) : Lib.decDigits n ≠ [] := fun e => by
  have h := congrArg List.length e
  rw [Lib.decDigits_length] at h
  by_cases h1 : n < 10
  · rw [Lib.nDigits_small h1] at h; cases h
  · rw [Lib.nDigits_big h1] at h; cases h
theorem dig_inj {a b : Nat} (ha : a < 10) (hb : b < 10) (h : UInt8.ofNat (48 + a) = UInt8.ofNat (48 + b)) : a = b := by
  have h1 := congrArg UInt8.toNat h
  simp only [UInt8.toNat_ofNat'] at h1
  omega
theorem decDigits_inj : ∀ n m : Nat, Lib.decDigits n = Lib.decDigits m → n = m := by
  intro n
  induction n using Nat.strongRecOn with
  | _ n ih =>
    intro m h
    by_cases hn : n < 10
    · by_cases hm : m < 10
      · rw [Lib.decDigits_one hn, Lib.decDigits_one hm] at h
        exact dig_inj hn hm (List.cons.inj h).1
      · exfalso
        have e : Lib.decDigits m = Lib.decDigits (m / 10) ++ [UInt8.ofNat (48 + m % 10)] := by rw [Lib.decDigits, dif_neg hm]
        rw [Lib.decDigits_one hn, e] at h
        have h2 := congrArg List.length h
        have h3 := List.length_pos_iff.2 (decDigits_ne (m / 10))
        simp only [List.length_append, List.length_cons, List.length_nil] at h2; omega
    · by_cases hm : m < 10
      · exfalso
        have e : Lib.decDigits n = Lib.decDigits (n / 10) ++ [UInt8.ofNat (48 + n % 10)] := by rw [Lib.decDigits, dif_neg hn]
        rw [Lib.decDigits_one hm, e] at h
        have h2 := congrArg List.length h
        have h3 := List.length_pos_iff.2 (decDigits_ne (n / 10))
        simp only [List.length_append, List.length_cons, List.length_nil] at h2; omega
      · have e : Lib.decDigits n = Lib.decDigits (n / 10) ++ [UInt8.ofNat (48 + n % 10)] := by rw [Lib.decDigits, dif_neg hn]
        have e2 : Lib.decDigits m = Lib.decDigits (m / 10) ++ [UInt8.ofNat (48 + m % 10)] := by rw [Lib.decDigits, dif_neg hm]
        rw [e, e2] at h
        obtain ⟨h1, h2⟩ := List.append_inj' h rfl
        have h3 := ih (n / 10) (by omega) (m / 10) h1
        have h4 := dig_inj (Nat.mod_lt n (by decide)) (Nat.mod_lt m (by decide)) (List.cons.inj h2).1
        omega
/-- A digit. -/
def isD (b : UInt8) : Prop := 48 ≤ b.toNat ∧ b.toNat ≤ 57
theorem decDigits_D : ∀ n : Nat, ∀ b ∈ Lib.decDigits n, isD b := by
  intro n
  induction n using Nat.strongRecOn with
  | _ n ih =>
    have key : ∀ a, a < 10 → isD (UInt8.ofNat (48 + a)) := fun a ha => by
      unfold isD; rw [UInt8.toNat_ofNat']; omega
    by_cases hn : n < 10
    · rw [Lib.decDigits_one hn]; intro b hb; rw [List.mem_singleton] at hb; subst hb; exact key n hn
    · have e : Lib.decDigits n = Lib.decDigits (n / 10) ++ [UInt8.ofNat (48 + n % 10)] := by rw [Lib.decDigits, dif_neg hn]
      rw [e]
      intro b hb
      rcases List.mem_append.1 hb with hb | hb
      · exact ih (n / 10) (by omega) b hb
      · rw [List.mem_singleton] at hb; subst hb; exact key _ (Nat.mod_lt _ (by decide))
/-- Two parts, the first of a class, the second beginning outside it. -/
theorem span_inj {C : UInt8 → Prop} : ∀ {u u' v v' : List UInt8}, (∀ b ∈ u, C b) → (∀ b ∈ u', C b) → (∀ b w, v = b :: w → ¬ C b) → (∀ b w, v' = b :: w → ¬ C b) → u ++ v = u' ++ v' → u = u' ∧ v = v'
  | [], [], v, v', _, _, _, _, h => ⟨rfl, h⟩
  | [], b :: u', v, v', _, h2, h3, _, h => by exact absurd (h2 b List.mem_cons_self) (h3 b (u' ++ v') h)
  | b :: u, [], v, v', h1, _, _, h4, h => by exact absurd (h1 b List.mem_cons_self) (h4 b (u ++ v) h.symm)
  | b :: u, b' :: u', v, v', h1, h2, h3, h4, h => by
    obtain ⟨e, h⟩ := List.cons.inj h
    obtain ⟨e1, e2⟩ := span_inj (fun x hx => h1 x (List.mem_cons_of_mem _ hx)) (fun x hx => h2 x (List.mem_cons_of_mem _ hx)) h3 h4 h
    exact ⟨by rw [e, e1], e2⟩
/-- The bytes of a number's text, for a number that is not negative. -/
def qB (x : Rat) : List UInt8 := Lib.decDigits x.num.natAbs ++ (if x.den = 1 then [] else 47 :: Lib.decDigits x.den)
theorem txtQ_B {x : Rat} (h : 0 ≤ x.num) : (txtQ x).data.toList = qB x := by
  have hz : txtZ x.num = dB x.num.natAbs := by unfold txtZ; rw [if_neg (by omega)]
  unfold txtQ qB
  rw [hz]
  unfold dB
  by_cases hd : x.den = 1
  · rw [if_pos hd, if_pos hd]; simp
  · rw [if_neg hd, if_neg hd, ByteArray.data_append, ByteArray.data_append]; simp
theorem qB_inj {x y : Rat} (hx : 0 ≤ x.num) (hy : 0 ≤ y.num) (h : qB x = qB y) : x = y := by
  unfold qB at h
  have hb : ∀ (d : Nat) (b : UInt8) (w : List UInt8), (if d = 1 then [] else 47 :: Lib.decDigits d) = b :: w → ¬ isD b := fun d b w he => by
    split at he
    · cases he
    · rw [← (List.cons.inj he).1]; unfold isD; decide
  obtain ⟨h1, h2⟩ := span_inj (decDigits_D _) (decDigits_D _) (hb _) (hb _) h
  have hn := decDigits_inj _ _ h1
  have hd : x.den = y.den := by
    split at h2
    · split at h2
      · omega
      · cases h2
    · split at h2
      · cases h2
      · exact decDigits_inj _ _ (List.cons.inj h2).2
  exact Rat.ext (by omega) hd
theorem qB_ne (x : Rat) : qB x ≠ [] := fun e => decDigits_ne _ (List.append_eq_nil_iff.1 e).1
/-- A byte of a number. -/
def isN (b : UInt8) : Prop := 47 ≤ b.toNat ∧ b.toNat ≤ 57
theorem qB_N (x : Rat) : ∀ b ∈ qB x, isN b := fun b hb => by
  have key : ∀ b, isD b → isN b := fun b h => ⟨by have := h.1; omega, h.2⟩
  unfold qB at hb
  rcases List.mem_append.1 hb with hb | hb
  · exact key b (decDigits_D _ b hb)
  · split at hb
    · cases hb
    · rcases List.mem_cons.1 hb with rfl | hb
      · unfold isN; decide
      · exact key b (decDigits_D _ b hb)
/-- The letters of a term. -/
def ltB (i j : Nat) : List UInt8 := (joinB (letL ⟨#[120]⟩ i ++ letL ⟨#[121]⟩ j) ⟨#[42]⟩).data.toList
theorem ltB_all : ∀ i, i < 4 → ∀ j, j < 4 → (∀ b ∈ ltB i j, b ≠ 32) ∧ (ltB i j = [] ↔ i + j = 0) ∧ (∀ b, (ltB i j).head? = some b → b = 120 ∨ b = 121) := by decide +kernel
theorem ltB_inj' : ∀ a, a < 16 → ∀ b, b < 16 → ltB (a / 4) (a % 4) = ltB (b / 4) (b % 4) → a = b := by decide +kernel
theorem ltB_inj (i : Nat) (hi : i < 4) (j : Nat) (hj : j < 4) (k : Nat) (hk : k < 4) (m : Nat) (hm : m < 4) (h : ltB i j = ltB k m) : i = k ∧ j = m := by
  have h1 := ltB_inj' (4 * i + j) (by omega) (4 * k + m) (by omega)
  rw [show (4 * i + j) / 4 = i by omega, show (4 * i + j) % 4 = j by omega, show (4 * k + m) / 4 = k by omega, show (4 * k + m) % 4 = m by omega] at h1
  have := h1 h
  omega
/-- The bytes of a term without its sign. -/
def tmB' (t : Tm) : List UInt8 := if ab t.c = ((1 : Int) : Rat) ∧ t.i + t.j ≠ 0 then ltB t.i t.j else qB (ab t.c) ++ (if t.i + t.j = 0 then [] else 42 :: ltB t.i t.j)
theorem join_one (x s : List UInt8) : Lib.join [x] s = x := by simp [Lib.join, List.intercalate]
theorem join_two (x y s : List UInt8) (l : List (List UInt8)) : Lib.join (x :: y :: l) s = x ++ (s ++ Lib.join (y :: l) s) := by simp [Lib.join, List.intercalate]
theorem letL_nil {s : ByteArray} {n : Nat} : letL s n = [] ↔ n = 0 := by
  unfold letL; split
  · simp_all
  · split <;> simp_all
theorem tmTx_B (t : Tm) : (tmTx txtQ t).data.toList = tmB' t := by
  have hq : (txtQ (ab t.c)).data.toList = qB (ab t.c) := txtQ_B (by rw [(ab_num t.c).1]; omega)
  unfold tmTx tmB' hdB
  by_cases h1 : ab t.c = ((1 : Int) : Rat) ∧ t.i + t.j ≠ 0
  · rw [if_pos h1, if_neg (by rw [decide_eq_true h1.1, decide_eq_false h1.2]; decide)]; rfl
  · rw [if_neg h1, if_pos (by
      simp only [Bool.or_eq_true, Bool.not_eq_true', decide_eq_false_iff_not, decide_eq_true_eq]
      by_cases h2 : ab t.c = ((1 : Int) : Rat)
      · exact .inr (Decidable.of_not_not (fun h3 => h1 ⟨h2, h3⟩))
      · exact .inl h2)]
    rw [List.singleton_append, List.cons_append]
    unfold joinB ltB joinB
    rw [← hq]
    by_cases h0 : t.i + t.j = 0
    · have e1 : letL ⟨#[120]⟩ t.i = [] := letL_nil.2 (by omega)
      have e2 : letL ⟨#[121]⟩ t.j = [] := letL_nil.2 (by omega)
      rw [if_pos h0, e1, e2]
      simp [join_one]
    · rw [if_neg h0]
      rcases hl : letL ⟨#[120]⟩ t.i ++ letL ⟨#[121]⟩ t.j with _ | ⟨y, l⟩
      · exfalso
        obtain ⟨e1, e2⟩ := List.append_eq_nil_iff.1 hl
        exact h0 (by rw [letL_nil.1 e1, letL_nil.1 e2])
      · rw [List.map_cons, List.map_cons, join_two]; simp
/-- The sign that goes before a term. -/
def sgB (t : Tm) : List UInt8 := if t.c.num.sign < 0 then [32, 45, 32] else [32, 43, 32]
def tlB : List Tm → List UInt8
  | [] => []
  | t :: p => sgB t ++ (tmB' t ++ tlB p)
def fuB : List Tm → List UInt8
  | [] => []
  | t :: p => (if t.c.num.sign < 0 then [45] else []) ++ (tmB' t ++ tlB p)
theorem tlB_snoc (t : Tm) : ∀ p : List Tm, tlB (p ++ [t]) = tlB p ++ (sgB t ++ tmB' t)
  | [] => by simp [tlB]
  | s :: p => by rw [List.cons_append, tlB, tlB_snoc t p, tlB]; simp
theorem fuB_snoc (t : Tm) (s : Tm) (p : List Tm) : fuB (s :: p ++ [t]) = fuB (s :: p) ++ (sgB t ++ tmB' t) := by
  rw [List.cons_append, fuB, tlB_snoc, fuB]; simp
theorem txP_B (p : List Tm) : ∀ k, k ≤ p.length → (txP txtQ p k).data.toList = fuB (p.take k)
  | 0, _ => rfl
  | k + 1, hk => by
    have ih := txP_B p k (by omega)
    have ht := tmTx_B (p.getD k T0)
    rw [txP, ByteArray.data_append, Array.toList_append, ht, take_snoc p (show k < p.length by omega)]
    rcases hp : p.take k with _ | ⟨s, r⟩
    · have hk0 : k = 0 := by
        have := congrArg List.length hp
        rw [List.length_take, List.length_nil] at this; omega
      subst hk0
      show _ = fuB [p.getD 0 T0]
      rw [fuB, tlB, List.append_nil]
      congr 1
      rw [show decide (0 = 0) = true from rfl]
      by_cases hs : (p.getD 0 T0).c.num.sign < 0
      · rw [decide_eq_true hs, if_pos hs]; rfl
      · rw [decide_eq_false hs, if_neg hs]; rfl
    · have hk0 : k ≠ 0 := fun e => by subst e; simp at hp
      rw [hp] at ih
      rw [fuB_snoc, ← ih, decide_eq_false hk0, ← List.append_assoc]
      congr 1
      unfold sgB
      by_cases hs : (p.getD k T0).c.num.sign < 0
      · rw [decide_eq_true hs, if_pos hs, preP, ByteArray.data_append, Array.toList_append]
      · rw [decide_eq_false hs, if_neg hs, preP, ByteArray.data_append, Array.toList_append]
theorem txtP_B (p : List Tm) : (txtP txtQ p).data.toList = if fuB p = [] then [48] else fuB p := by
  have h := txP_B p p.length (Nat.le_refl _)
  rw [List.take_length] at h
  unfold txtP
  by_cases h0 : fuB p = []
  · rw [if_pos h0, if_pos (by apply ByteArray.ext; apply Array.ext'; rw [h, h0])]
  · rw [if_neg h0, if_neg (fun e => h0 (by rw [← h, e])), h]
/-- A term whose text is known. -/
def OkD (t : Tm) : Prop := t.i < 4 ∧ t.j < 4 ∧ t.c ≠ 0
theorem tm_head {t : Tm} (h : OkD t) : tmB' t ≠ [] ∧ ∀ b w, tmB' t = b :: w → isN b ∨ b = 120 ∨ b = 121 := by
  obtain ⟨l1, l2, l3⟩ := ltB_all t.i h.1 t.j h.2.1
  unfold tmB'
  split
  · rename_i h1
    refine ⟨fun e => h1.2 (l2.1 e), fun b w e => .inr (l3 b (by rw [e]; rfl))⟩
  · refine ⟨fun e => qB_ne _ (List.append_eq_nil_iff.1 e).1, fun b w e => .inl ?_⟩
    rcases hq : qB (ab t.c) with _ | ⟨x, r⟩
    · exact absurd hq (qB_ne _)
    · rw [hq] at e
      rw [← (List.cons.inj e).1]
      exact qB_N (ab t.c) x (by rw [hq]; exact List.mem_cons_self)
theorem tm_sp {t : Tm} (h : OkD t) : ∀ b ∈ tmB' t, b ≠ 32 := fun b hb => by
  obtain ⟨l1, l2, l3⟩ := ltB_all t.i h.1 t.j h.2.1
  have hN : ∀ b, isN b → b ≠ 32 := fun b h e => by subst e; unfold isN at h; exact absurd h (by decide)
  unfold tmB' at hb
  split at hb
  · exact l1 b hb
  · rcases List.mem_append.1 hb with hb | hb
    · exact hN b (qB_N _ b hb)
    · split at hb
      · cases hb
      · rcases List.mem_cons.1 hb with rfl | hb
        · decide
        · exact l1 b hb
theorem tm_inj {s t : Tm} (hs : OkD s) (ht : OkD t) (h : tmB' s = tmB' t) : s.i = t.i ∧ s.j = t.j ∧ ab s.c = ab t.c := by
  obtain ⟨a1, a2, a3⟩ := ltB_all s.i hs.1 s.j hs.2.1
  obtain ⟨b1, b2, b3⟩ := ltB_all t.i ht.1 t.j ht.2.1
  have n1 : 0 ≤ (ab s.c).num := by rw [(ab_num s.c).1]; omega
  have n2 : 0 ≤ (ab t.c).num := by rw [(ab_num t.c).1]; omega
  have hN : ∀ b : UInt8, (b = 120 ∨ b = 121) → ¬ isN b := fun b h hn => by
    rcases h with rfl | rfl <;> (unfold isN at hn; exact absurd hn (by decide))
  have hL : ∀ (i j : Nat) (b : UInt8) (w : List UInt8), (∀ b, (ltB i j).head? = some b → b = 120 ∨ b = 121) → ltB i j = b :: w → ¬ isN b := fun i j b w h3 e => hN b (h3 b (by rw [e]; rfl))
  have hS : ∀ (i j : Nat) (b : UInt8) (w : List UInt8), (if i + j = 0 then [] else 42 :: ltB i j) = b :: w → ¬ isN b := fun i j b w e hn => by
    split at e
    · cases e
    · rw [← (List.cons.inj e).1] at hn; unfold isN at hn; exact absurd hn (by decide)
  unfold tmB' at h
  by_cases h1 : ab s.c = ((1 : Int) : Rat) ∧ s.i + s.j ≠ 0
  · by_cases h2 : ab t.c = ((1 : Int) : Rat) ∧ t.i + t.j ≠ 0
    · rw [if_pos h1, if_pos h2] at h
      obtain ⟨e1, e2⟩ := ltB_inj s.i hs.1 s.j hs.2.1 t.i ht.1 t.j ht.2.1 h
      exact ⟨e1, e2, by rw [h1.1, h2.1]⟩
    · rw [if_pos h1, if_neg h2] at h
      have := span_inj (C := isN) (u := []) (v := ltB s.i s.j) (fun _ h => nomatch h) (qB_N (ab t.c)) (fun b w e => hL s.i s.j b w a3 e) (fun b w e => hS t.i t.j b w e) h
      exact absurd this.1.symm (qB_ne _)
  · by_cases h2 : ab t.c = ((1 : Int) : Rat) ∧ t.i + t.j ≠ 0
    · rw [if_neg h1, if_pos h2] at h
      have := span_inj (C := isN) (u' := []) (v' := ltB t.i t.j) (qB_N (ab s.c)) (fun _ h => nomatch h) (fun b w e => hS s.i s.j b w e) (fun b w e => hL t.i t.j b w b3 e) h
      exact absurd this.1 (qB_ne _)
    · rw [if_neg h1, if_neg h2] at h
      obtain ⟨h3, h4⟩ := span_inj (C := isN) (qB_N (ab s.c)) (qB_N (ab t.c)) (fun b w e => hS s.i s.j b w e) (fun b w e => hS t.i t.j b w e) h
      have hc := qB_inj n1 n2 h3
      by_cases z1 : s.i + s.j = 0
      · by_cases z2 : t.i + t.j = 0
        · exact ⟨by omega, by omega, hc⟩
        · rw [if_pos z1, if_neg z2] at h4; cases h4
      · by_cases z2 : t.i + t.j = 0
        · rw [if_neg z1, if_pos z2] at h4; cases h4
        · rw [if_neg z1, if_neg z2] at h4
          obtain ⟨e1, e2⟩ := ltB_inj s.i hs.1 s.j hs.2.1 t.i ht.1 t.j ht.2.1 (List.cons.inj h4).2
          exact ⟨e1, e2, hc⟩
theorem sign_neg (c : Rat) : c.num.sign < 0 ↔ c < 0 := by
  have h1 := @Rat.num_nonneg c
  have h2 : c.num.sign < 0 ↔ c.num < 0 := by
    rcases Int.lt_trichotomy c.num 0 with h | h | h
    · rw [Int.sign_eq_neg_one_of_neg h]; omega
    · rw [h]; decide
    · rw [Int.sign_eq_one_of_pos h]; omega
  rw [h2]
  constructor
  · intro h; have : ¬ 0 ≤ c := fun h3 => by rw [← h1] at h3; omega
    grind
  · intro h; have : ¬ 0 ≤ c.num := fun h3 => by rw [h1] at h3; grind
    omega
theorem ab_sign {x y : Rat} (h : ab x = ab y) (hs : x.num.sign < 0 ↔ y.num.sign < 0) : x = y := by
  rw [sign_neg, sign_neg] at hs
  unfold ab at h
  by_cases h1 : x < 0
  · rw [if_pos h1, if_pos (hs.1 h1)] at h; grind
  · rw [if_neg h1, if_neg (fun h2 => h1 (hs.2 h2))] at h; exact h
theorem tl_head {p : List Tm} : ∀ b w, tlB p = b :: w → ¬ (b ≠ 32) := fun b w e => by
  rcases p with _ | ⟨t, p⟩
  · cases e
  · rw [tlB] at e; unfold sgB at e
    split at e <;> (intro hb; exact hb (List.cons.inj e).1.symm)
theorem tl_inj : ∀ {p q : List Tm}, (∀ t ∈ p, OkD t) → (∀ t ∈ q, OkD t) → tlB p = tlB q → p = q
  | [], [], _, _, _ => rfl
  | [], t :: q, _, _, h => by rw [tlB, tlB] at h; unfold sgB at h; split at h <;> cases h
  | s :: p, [], _, _, h => by rw [tlB, tlB] at h; unfold sgB at h; split at h <;> cases h
  | s :: p, t :: q, hp, hq, h => by
    rw [tlB, tlB] at h
    have hsl : (sgB s).length = (sgB t).length := by unfold sgB; split <;> split <;> rfl
    obtain ⟨h1, h2⟩ := List.append_inj h hsl
    obtain ⟨h3, h4⟩ := span_inj (C := fun b => b ≠ 32) (tm_sp (hp s List.mem_cons_self)) (tm_sp (hq t List.mem_cons_self)) tl_head tl_head h2
    obtain ⟨e1, e2, e3⟩ := tm_inj (hp s List.mem_cons_self) (hq t List.mem_cons_self) h3
    have e4 := ab_sign e3 (by
      unfold sgB at h1
      split at h1 <;> split at h1 <;> first | (constructor <;> intro <;> assumption) | (constructor <;> intro hh <;> contradiction) | (simp at h1))
    rw [Tm.ext' e1 e2 e4, tl_inj (fun u hu => hp u (List.mem_cons_of_mem _ hu)) (fun u hu => hq u (List.mem_cons_of_mem _ hu)) h4]
theorem fu_ne {t : Tm} {p : List Tm} (h : OkD t) : fuB (t :: p) ≠ [] := fun e => by
  rw [fuB] at e
  exact (tm_head h).1 (List.append_eq_nil_iff.1 (List.append_eq_nil_iff.1 e).2).1
theorem fu_48 {t : Tm} {p : List Tm} (h : OkD t) : fuB (t :: p) ≠ [48] := fun e => by
  rw [fuB] at e
  split at e
  · cases e
  · rw [List.nil_append] at e
    obtain ⟨e1, e2⟩ := span_inj (C := fun b => b ≠ 32) (u' := [48]) (v' := []) (tm_sp h) (fun b hb => by rw [List.mem_singleton.1 hb]; decide) tl_head (fun _ _ h => nomatch h) (by rw [e]; rfl)
    unfold tmB' at e1
    obtain ⟨l1, l2, l3⟩ := ltB_all t.i h.1 t.j h.2.1
    split at e1
    · rcases l3 48 (by rw [e1]; rfl) with h | h <;> exact absurd h (by decide)
    · split at e1
      · rw [List.append_nil] at e1
        have e0 : qB 0 = [48] := by decide +kernel
        have := qB_inj (by rw [(ab_num t.c).1]; omega) (by decide) (e1.trans e0.symm)
        have h3 := h.2.2
        unfold ab at this
        split at this <;> grind
      · have := congrArg List.length e1
        have h4 := List.length_pos_iff.2 (qB_ne (ab t.c))
        simp only [List.length_append, List.length_cons, List.length_nil] at this; omega
theorem fu_inj : ∀ {p q : List Tm}, (∀ t ∈ p, OkD t) → (∀ t ∈ q, OkD t) → fuB p = fuB q → p = q
  | [], [], _, _, _ => rfl
  | [], t :: q, _, hq, h => absurd h.symm (fu_ne (hq t List.mem_cons_self))
  | s :: p, [], hp, _, h => absurd h (fu_ne (hp s List.mem_cons_self))
  | s :: p, t :: q, hp, hq, h => by
    have ks := hp s List.mem_cons_self
    have kt := hq t List.mem_cons_self
    have hneg : ∀ {u : Tm} {w v : List UInt8}, OkD u → 45 :: w = tmB' u ++ v → False := fun {u w v} hu e => by
      rcases hm : tmB' u with _ | ⟨b, r⟩
      · exact (tm_head hu).1 hm
      · rw [hm] at e
        have hb := (List.cons.inj e).1
        rcases (tm_head hu).2 b r hm with h | h | h
        · rw [← hb] at h; unfold isN at h; exact absurd h (by decide)
        · rw [← hb] at h; exact absurd h (by decide)
        · rw [← hb] at h; exact absurd h (by decide)
    rw [fuB, fuB] at h
    have key : tmB' s ++ tlB p = tmB' t ++ tlB q ∧ (s.c.num.sign < 0 ↔ t.c.num.sign < 0) := by
      by_cases h1 : s.c.num.sign < 0
      · by_cases h2 : t.c.num.sign < 0
        · rw [if_pos h1, if_pos h2] at h; exact ⟨(List.cons.inj h).2, by constructor <;> intro <;> assumption⟩
        · rw [if_pos h1, if_neg h2] at h; exact (hneg kt h).elim
      · by_cases h2 : t.c.num.sign < 0
        · rw [if_neg h1, if_pos h2] at h; exact (hneg ks h.symm).elim
        · rw [if_neg h1, if_neg h2] at h; exact ⟨h, by constructor <;> intro <;> contradiction⟩
    obtain ⟨h3, h4⟩ := span_inj (C := fun b => b ≠ 32) (tm_sp ks) (tm_sp kt) tl_head tl_head key.1
    obtain ⟨e1, e2, e3⟩ := tm_inj ks kt h3
    rw [Tm.ext' e1 e2 (ab_sign e3 key.2), tl_inj (fun u hu => hp u (List.mem_cons_of_mem _ hu)) (fun u hu => hq u (List.mem_cons_of_mem _ hu)) h4]
/-- Texts are equal if and only if the polynomials are. -/
theorem txt_inj {p q : List Tm} (hp : ∀ t ∈ p, OkD t) (hq : ∀ t ∈ q, OkD t) : txtP txtQ p = txtP txtQ q ↔ p = q := by
  refine ⟨fun h => ?_, fun h => by rw [h]⟩
  have h1 := congrArg (fun b : ByteArray => b.data.toList) h
  simp only [txtP_B] at h1
  rcases p with _ | ⟨s, p⟩
  · rcases q with _ | ⟨t, q⟩
    · rfl
    · rw [if_pos (show fuB [] = [] from rfl), if_neg (fu_ne (hq t List.mem_cons_self))] at h1
      exact absurd h1.symm (fu_48 (hq t List.mem_cons_self))
  · rcases q with _ | ⟨t, q⟩
    · rw [if_neg (fu_ne (hp s List.mem_cons_self)), if_pos (show fuB [] = [] from rfl)] at h1
      exact absurd h1 (fu_48 (hp s List.mem_cons_self))
    · rw [if_neg (fu_ne (hp s List.mem_cons_self)), if_neg (fu_ne (hq t List.mem_cons_self))] at h1
      exact fu_inj hp hq h1

end Go.Proofs.YtealgpgmbflilaaGreatDoor
