/- Walks of functions. By an AI agent. -/
import Derived.Test.YtgkicbaomcmfoaaGreatDoorRefs
import Derived.Test.YtgkicbaomcmfoaaGreatDoorFxE
set_option linter.unusedVariables false
set_option linter.unusedSimpArgs false
set_option maxRecDepth 4000
namespace Go.Proofs.YtgkicbaomcmfoaaGreatDoor
open Go Go.Proofs Go.Fx Tryz
attribute [local irreducible] Oper.wp Code.wp wpList Fx.Head wpOp
section
def exB (n : Nat) : List UInt8 := if 10 ≤ n then [94, 49, UInt8.ofNat (48 + n - 10)] else if 1 < n then [94, UInt8.ofNat (48 + n)] else []
def Zcn (s nm : ByteArray) (n : Nat) : ByteArray :=
 if n = 0 then s else
 if 10 ≤ n then (((if s = ⟨#[]⟩ then s else s ++ ⟨#[42]⟩) ++ nm) ++ ⟨#[94, 49]⟩) ++ ⟨#[UInt8.ofNat (48 + n - 10)]⟩
 else if 1 < n then (((if s = ⟨#[]⟩ then s else s ++ ⟨#[42]⟩) ++ nm) ++ ⟨#[94]⟩) ++ ⟨#[UInt8.ofNat (48 + n)]⟩
 else (if s = ⟨#[]⟩ then s else s ++ ⟨#[42]⟩) ++ nm
def Zwz (nm : List UInt8) (n : Nat) : List UInt8 := if n = 0 then [] else nm ++ exB n
theorem Zjz {s : ByteArray} : s = ⟨#[]⟩ ↔ s.data.toList = [] := by
 constructor
 · intro h; rw [h]
 · intro h; apply ByteArray.ext; apply Array.ext'; rw [h]
theorem Zo5 (s nm : ByteArray) (n : Nat) : (Zcn s nm n).data.toList = if n = 0 then s.data.toList else (if s.data.toList = [] then [] else s.data.toList ++ [42]) ++ Zwz nm.data.toList n := by
 have e : (if s = ⟨#[]⟩ then s else s ++ ⟨#[42]⟩).data.toList = if s.data.toList = [] then [] else s.data.toList ++ [42] := by
  by_cases h : s = ⟨#[]⟩
  · rw [if_pos h, if_pos (Zjz.1 h), Zjz.1 h]
  · rw [if_neg h, if_neg (fun h2 => h (Zjz.2 h2)), ByteArray.data_append, Array.toList_append]
 unfold Zcn Zwz exB
 by_cases h0 : n = 0
 · rw [if_pos h0, if_pos h0]
 ·
  rw [if_neg h0, if_neg h0, if_neg h0]
  by_cases h1 : 10 ≤ n
  ·
   rw [if_pos h1, if_pos h1]
   simp only [ByteArray.data_append, Array.toList_append, e, List.append_assoc]; rfl
  ·
   rw [if_neg h1, if_neg h1]
   by_cases h2 : 1 < n
   ·
    rw [if_pos h2, if_pos h2]
    simp only [ByteArray.data_append, Array.toList_append, e, List.append_assoc]; rfl
   ·
    rw [if_neg h2, if_neg h2]
    simp only [ByteArray.data_append, Array.toList_append, e, List.append_nil]
def rT (t : Tm) : ByteArray := Zcn (Zcn (if Ks (ab t.c) = ⟨#[49]⟩ ∧ t.i + t.j > 0 then ⟨#[]⟩ else Ks (ab t.c)) ⟨#[120]⟩ t.i) ⟨#[121]⟩ t.j
theorem Qec : ∀ i, i < 13 → ∀ j, j < 13 → ltB i j = (if j = 0 then Zwz [120] i else (if Zwz [120] i = [] then [] else Zwz [120] i ++ [42]) ++ Zwz [121] j) := by decide +kernel
theorem Zz6 : ∀ i, i < 13 → ∀ j, j < 13 → (if i + j = 0 then [] else 42 :: ltB i j) = (if i = 0 then [] else 42 :: Zwz [120] i) ++ (if j = 0 then [] else 42 :: Zwz [121] j) := by decide +kernel
theorem Qb3 : qB ((1 : Int) : Rat) = [49] := by decide +kernel
theorem Zuo {x : Rat} (h : 0 ≤ x.num) : Ks x = ⟨#[49]⟩ ↔ x = ((1 : Int) : Rat) := by
 have e := Zup h
 constructor
 ·
  intro h1
  rw [h1] at e
  exact qB_inj h dd (by rw [← e, Qb3])
 ·
  intro h1
  apply ByteArray.ext; apply Array.ext'; rw [e, h1, Qb3]
theorem rT_B {t : Tm} (hi : t.i < 13) (hj : t.j < 13) : (rT t).data.toList = Zt3 t := by
 have hn : 0 ≤ (ab t.c).num := by rw [(Zcl t.c).1]; omega
 have hq := Zup hn
 unfold rT Zt3
 rw [Zo5, Zo5]
 by_cases h1 : ab t.c = ((1 : Int) : Rat) ∧ t.i + t.j ≠ 0
 ·
  have hS : (if Ks (ab t.c) = ⟨#[49]⟩ ∧ t.i + t.j > 0 then ⟨#[]⟩ else Ks (ab t.c)) = (⟨#[]⟩ : ByteArray) := if_pos ⟨(Zuo hn).2 h1.1, oo⟩
  rw [hS, if_pos h1, Qec t.i hi t.j hj]
  by_cases h0 : t.i = 0
  · rw [if_pos h0, h0]; simp [Zwz]
  · rw [if_neg h0]; simp
 ·
  have hS : (if Ks (ab t.c) = ⟨#[49]⟩ ∧ t.i + t.j > 0 then ⟨#[]⟩ else Ks (ab t.c)) = Ks (ab t.c) := if_neg (fun h => h1 ⟨(Zuo hn).1 h.1, by have := h.2; omega⟩)
  rw [hS, if_neg h1, Zz6 t.i hi t.j hj, hq]
  have hne := qB_ne (ab t.c)
  by_cases h0 : t.i = 0
  ·
   rw [if_pos h0, if_pos h0, if_neg hne]
   by_cases h2 : t.j = 0
   · rw [if_pos h2, if_pos h2]; simp
   · rw [if_neg h2, if_neg h2]; simp
  ·
   rw [if_neg h0, if_neg h0, if_neg hne]
   have hne2 : (qB (ab t.c) ++ [42]) ++ Zwz [120] t.i ≠ [] := by simp
   by_cases h2 : t.j = 0
   · rw [if_pos h2, if_pos h2]; simp
   · rw [if_neg h2, if_neg h2, if_neg hne2]; simp
theorem ltB_ne : ∀ i, i < 13 → ∀ j, j < 13 → i + j ≠ 0 → ltB i j ≠ [] := by decide +kernel
theorem tmB_ne {t : Tm} (hi : t.i < 13) (hj : t.j < 13) : Zt3 t ≠ [] := by
 unfold Zt3
 split
 · rename_i h; exact ltB_ne _ hi _ hj h.2
 · exact fun e => qB_ne _ (List.append_eq_nil_iff.1 e).1
structure Vis (X : List Rat) (d j : Nat) (V : List Tm) : Prop where
 nrm : Nrm V
 old : ∀ t ∈ V, t.i + t.j < d ∨ (t.i + t.j = d ∧ t.j < j)
 cf : ∀ a b, a + b < d ∨ (a + b = d ∧ b < j) → lin (at0 a b) V = X.getD (13 * a + b) 0
theorem Vis.zero (X : List Rat) : Vis X 0 0 [] := ⟨⟨(fun _ h => nomatch h), List.Pairwise.nil⟩, (fun _ h => nomatch h), fun a b h => by omega⟩
theorem Vis.row {X : List Rat} {d : Nat} {V : List Tm} (h : Vis X d (d + 1) V) : Vis X (d + 1) 0 V :=
 ⟨h.nrm, fun t ht => by have := h.old t ht; omega, fun a b hab => h.cf a b oo⟩
theorem Vis.no {X : List Rat} {d j : Nat} {V : List Tm} (h : Vis X d j V) (hj : j ≤ d) : lin (at0 (d - j) j) V = 0 :=
 Ya (fun t ht e => by have := h.old t ht; omega)
theorem Vis.skip {X : List Rat} {d j : Nat} {V : List Tm} (h : Vis X d j V) (hj : j ≤ d) (hz : X.getD (13 * (d - j) + j) 0 = 0) : Vis X d (j + 1) V :=
 ⟨h.nrm, fun t ht => by have := h.old t ht; omega, fun a b hab => by
  by_cases e : a + b = d ∧ b = j
  ·
   obtain ⟨e1, e2⟩ := e
   rw [show a = d - j by omega, e2, h.no hj, hz]
  · exact h.cf a b oo⟩
theorem Vis.step {X : List Rat} {d j : Nat} {V : List Tm} (h : Vis X d j V) (hj : j ≤ d) (hz : X.getD (13 * (d - j) + j) 0 ≠ 0) : Vis X d (j + 1) (V ++ [⟨d - j, j, X.getD (13 * (d - j) + j) 0⟩]) := by
 refine ⟨⟨fun t ht => ?_, ?_⟩, fun t ht => ?_, fun a b hab => ?_⟩
 ·
  rcases List.mem_append.1 ht with ht | ht
  · exact h.nrm.1 t ht
  · rw [List.mem_singleton.1 ht]; exact hz
 ·
  rw [List.pairwise_append]
  refine ⟨h.nrm.2, List.pairwise_singleton _ _, fun s hs t ht => ?_⟩
  rw [List.mem_singleton.1 ht, Zam]
  have := h.old s hs
  simp only; omega
 ·
  rcases List.mem_append.1 ht with ht | ht
  · have := h.old t ht; omega
  · rw [List.mem_singleton.1 ht]; simp only; omega
 ·
  rw [Xp]
  simp only [lin, at0]
  by_cases e : a + b = d ∧ b = j
  ·
   obtain ⟨e1, e2⟩ := e
   subst e2
   rw [show a = d - b by omega, h.no hj, if_pos ⟨rfl, rfl⟩]; grind
  · rw [if_neg oo, h.cf a b oo]; grind
theorem Vis.all {X : List Rat} {K : Nat} {V : List Tm} (h : Vis X 13 0 V) (hX : Tb 12 K X) : V = norm (pol X) := by
 refine Zfu h.nrm (Yd _) (fun φ => ?_)
 have key : ∀ a b, lin (at0 a b) (V ++ Qj (-1) (norm (pol X))) = 0 := fun a b => by
  rw [Xp, Vu, Vj]
  by_cases hb : b < 13
  ·
   rw [Zmf hb]
   by_cases hd : a + b < 13
   · rw [h.cf a b oo]; grind
   ·
    have h1 : X.getD (13 * a + b) 0 = 0 := by
     by_cases hk : 13 * a + b < 169
     ·
      by_cases h2 : X.getD (13 * a + b) 0 = 0
      · exact h2
      · have := hX.deg _ hk h2; omega
     · rw [List.getD_eq_getElem?_getD, List.getElem?_eq_none (by rw [hX.len]; omega)]; rfl
    rw [h1, Ya (fun t ht e => by have := h.old t ht; omega)]; grind
  ·
   rw [Ya (l := V) (fun t ht e => by have := h.old t ht; omega), Ya (l := pol X) (fun t ht e => by
    obtain ⟨k, _, rfl⟩ := Zkm ht; have := Nat.mod_lt k (show 0 < 13 by decide); simp only at e; omega)]; grind
 have h2 := Qan key φ
 rw [Xp, Vu] at h2
 grind
theorem Qel {V : List Tm} (h : ∀ t ∈ V, t.i < 13 ∧ t.j < 13) : fuB V = [] ↔ V = [] := by
 constructor
 ·
  intro e
  match V, h, e with
  | [], _, _ => rfl
  | t :: r, h, e =>
   exfalso
   rw [fuB] at e
   have h1 := (List.append_eq_nil_iff.1 (List.append_eq_nil_iff.1 e).2).1
   exact tmB_ne (h t List.mem_cons_self).1 (h t List.mem_cons_self).2 h1
 · intro e; subst e; rfl
theorem Qek (t : Tm) : fuB [t] = (if t.c.num.sign < 0 then [45] else []) ++ Zt3 t := by rw [fuB, tlB, List.append_nil]
def fuA (V : List Tm) : ByteArray := ⟨(fuB V).toArray⟩
theorem Zk2 {V : List Tm} (h : ∀ t ∈ V, t.i < 13 ∧ t.j < 13) : fuA V = ⟨#[]⟩ ↔ V = [] := by
 rw [Zjz]; unfold fuA; rw [List.toList_toArray]; exact Qel h
theorem Zm2 {t : Tm} (hi : t.i < 13) (hj : t.j < 13) (s : ByteArray) (hs : s = if t.c.num.sign < 0 then ⟨#[45]⟩ ++ rT t else rT t) : fuA [] ++ s = fuA ([] ++ [t]) := by
 apply ByteArray.ext; apply Array.ext'
 rw [ByteArray.data_append, Array.toList_append]
 unfold fuA
 rw [List.toList_toArray, List.toList_toArray, List.nil_append, Qek, ← rT_B hi hj]
 by_cases hg : t.c.num.sign < 0
 · rw [if_pos hg] at hs ⊢; rw [hs]; show _ ++ ((⟨#[45]⟩ : ByteArray) ++ rT t).data.toList = _; rw [ByteArray.data_append, Array.toList_append]; rfl
 · rw [if_neg hg] at hs ⊢; rw [hs]; rfl
theorem Zrn {t : Tm} {V : List Tm} (hi : t.i < 13) (hj : t.j < 13) (hV : V ≠ []) (s : ByteArray) (hs : s = if t.c.num.sign < 0 then ⟨#[32, 45, 32]⟩ ++ rT t else ⟨#[32, 43, 32]⟩ ++ rT t) : fuA V ++ s = fuA (V ++ [t]) := by
 apply ByteArray.ext; apply Array.ext'
 rw [ByteArray.data_append, Array.toList_append]
 unfold fuA
 match V, hV with
 | u :: r, _ =>
  rw [List.toList_toArray, List.toList_toArray, Zrm, ← rT_B hi hj]
  unfold sgB
  by_cases hg : t.c.num.sign < 0
  · rw [if_pos hg] at hs ⊢; rw [hs]; show _ ++ ((⟨#[32, 45, 32]⟩ : ByteArray) ++ rT t).data.toList = _; rw [ByteArray.data_append, Array.toList_append]
  · rw [if_neg hg] at hs ⊢; rw [hs]; show _ ++ ((⟨#[32, 43, 32]⟩ : ByteArray) ++ rT t).data.toList = _; rw [ByteArray.data_append, Array.toList_append]
theorem Zp7 (p : List Tm) : Zn8 Ks p = if fuA p = ⟨#[]⟩ then ⟨#[48]⟩ else fuA p := by
 apply ByteArray.ext; apply Array.ext'
 rw [txtP_B]
 by_cases h : fuB p = []
 · rw [if_pos h, if_pos (by rw [Zjz]; unfold fuA; rw [List.toList_toArray]; exact h)]
 · rw [if_neg h, if_neg (by rw [Zjz]; unfold fuA; rw [List.toList_toArray]; exact h)]; unfold fuA; rw [List.toList_toArray]
theorem Qep (n : Nat) : (exB n).length ≤ 3 := by
 unfold exB
 split
 · simp
 · split <;> simp
theorem Zbq (s nm : ByteArray) (n : Nat) (h : nm.size ≤ 1) : (Zcn s nm n).size ≤ s.size + 5 := by
 have e := Zo5 s nm n
 have e2 : ∀ b : ByteArray, b.size = b.data.toList.length := fun b => by rw [Array.length_toList]; rfl
 have h2 := Qep n
 rw [e2] at h ⊢; rw [e, e2]
 unfold Zwz
 split
 · omega
 · split <;> simp only [List.length_append, List.length_cons, List.length_nil] <;> omega
theorem Zvm (t : Tm) {M : Nat} (h : (Ks (ab t.c)).size ≤ M) : (rT t).size ≤ M + 10 := by
 unfold rT
 have h1 := Zbq (Zcn (if Ks (ab t.c) = ⟨#[49]⟩ ∧ t.i + t.j > 0 then ⟨#[]⟩ else Ks (ab t.c)) ⟨#[120]⟩ t.i) ⟨#[121]⟩ t.j (Nat.le_refl _)
 have h2 := Zbq (if Ks (ab t.c) = ⟨#[49]⟩ ∧ t.i + t.j > 0 then ⟨#[]⟩ else Ks (ab t.c)) ⟨#[120]⟩ t.i (Nat.le_refl _)
 have h3 : (if Ks (ab t.c) = ⟨#[49]⟩ ∧ t.i + t.j > 0 then ⟨#[]⟩ else Ks (ab t.c)).size ≤ M := by
  split
  · exact Nat.zero_le _
  · exact h
 omega
theorem Zut {t : Tm} (hi : t.i < 13) (hj : t.j < 13) {M : Nat} (h : (Ks (ab t.c)).size ≤ M) : (Zt3 t).length ≤ M + 10 := by
 rw [← rT_B hi hj, Array.length_toList]; exact Zvm t h
theorem Zuu {M : Nat} : ∀ {V : List Tm}, (∀ t ∈ V, t.i < 13 ∧ t.j < 13 ∧ (Ks (ab t.c)).size ≤ M) → (tlB V).length ≤ V.length * (M + 13)
 | [], _ => Nat.zero_le _
 | t :: V, h => by
  obtain ⟨h1, h2, h3⟩ := h t List.mem_cons_self
  have ih := Zuu (fun s hs => h s (List.mem_cons_of_mem _ hs))
  have h4 := Zut h1 h2 h3
  have h5 : (sgB t).length = 3 := by unfold sgB; split <;> rfl
  rw [tlB, List.length_append, List.length_append, List.length_cons, Nat.add_mul]; omega
theorem Qak {M : Nat} {V : List Tm} (h : ∀ t ∈ V, t.i < 13 ∧ t.j < 13 ∧ (Ks (ab t.c)).size ≤ M) : (fuA V).size ≤ V.length * (M + 13) := by
 show (fuB V).toArray.size ≤ _
 rw [List.size_toArray]
 match V, h with
 | [], _ => exact Nat.zero_le _
 | t :: r, h =>
  obtain ⟨h1, h2, h3⟩ := h t List.mem_cons_self
  have h4 := Zut h1 h2 h3
  have h5 := Zuu (fun s hs => h s (List.mem_cons_of_mem t hs))
  rw [fuB, List.length_append, List.length_append, List.length_cons, Nat.add_mul]
  split <;> simp only [List.length_cons, List.length_nil] <;> omega
def dgX (X : List Rat) : Nat → Int
 | 0 => -1
 | k + 1 => if X.getD k 0 = 0 then dgX X k else max (dgX X k) ((k / 13 + k % 13 : Nat) : Int)
theorem Qb7 (X : List Rat) : ∀ n, -1 ≤ dgX X n
 | 0 => Int.le_refl _
 | n + 1 => by rw [dgX]; have := Qb7 X n; split <;> omega
theorem Zw7 (X : List Rat) : ∀ n k, k < n → X.getD k 0 ≠ 0 → ((k / 13 + k % 13 : Nat) : Int) ≤ dgX X n
 | 0, k, h, _ => absurd h (Nat.not_lt_zero _)
 | n + 1, k, h, hz => by
  rw [dgX]
  by_cases e : k = n
  · subst e; rw [if_neg hz]; omega
  ·
   have := Zw7 X n k oo hz
   split <;> omega
theorem Zpi (X : List Rat) : ∀ n, dgX X n = -1 ∨ ∃ k, k < n ∧ X.getD k 0 ≠ 0 ∧ dgX X n = ((k / 13 + k % 13 : Nat) : Int)
 | 0 => .inl rfl
 | n + 1 => by
  rw [dgX]
  by_cases hz : X.getD n 0 = 0
  ·
   rw [if_pos hz]
   rcases Zpi X n with h | ⟨k, h1, h2, h3⟩
   · exact .inl h
   · exact .inr ⟨k, oo, h2, h3⟩
  ·
   rw [if_neg hz]
   rcases Int.le_total (dgX X n) ((n / 13 + n % 13 : Nat) : Int) with h | h
   · exact .inr ⟨n, oo, hz, oo⟩
   ·
    rw [Int.max_eq_left h]
    rcases Zpi X n with h | ⟨k, h1, h2, h3⟩
    · exfalso; omega
    · exact .inr ⟨k, oo, h2, h3⟩
theorem Qat {X : List Rat} (hX : X.length = 169) : dgX X 169 = Yz (norm (pol X)) := by
 have hN := Yd (pol X)
 have hc : ∀ t ∈ norm (pol X), ∃ k, k < 169 ∧ X.getD k 0 ≠ 0 ∧ k / 13 + k % 13 = t.i + t.j := fun t ht => by
  obtain ⟨hm, hne⟩ := Zel ht
  obtain ⟨u, hu, e1, e2⟩ := Zcf hm
  obtain ⟨k, hk, rfl⟩ := Zkm hu
  rw [hX] at hk
  have h1 := Zgy hN ht
  rw [Vj, e1, e2, Zmf (Nat.mod_lt _ dd), show 13 * (k / 13) + k % 13 = k by omega] at h1
  exact ⟨k, hk, by rw [h1]; exact hne, by simp only at e1 e2; omega⟩
 apply Int.le_antisymm
 ·
  rcases Zpi X 169 with h | ⟨k, h1, h2, h3⟩
  · rw [h]; exact Zid _
  ·
   rw [h3]
   have e := Zmf (X := X) (i := k / 13) (j := k % 13) (Nat.mod_lt _ dd)
   rw [show 13 * (k / 13) + k % 13 = k by omega] at e
   obtain ⟨u, hu, u1, u2⟩ := Zr1 (l := pol X) (a := k / 13) (b := k % 13) (by rw [e]; exact h2)
   have := Zlc hN hu
   rw [u1, u2] at this; exact this
 ·
  refine Qaw (Qb7 X 169) (fun t ht => ?_)
  obtain ⟨k, h1, h2, h3⟩ := hc t ht
  have := Zw7 X 169 k h1 h2
  rw [h3] at this; exact this
theorem Vis.coef {X : List Rat} {d j : Nat} {V : List Tm} (h : Vis X d j V) {t : Tm} (ht : t ∈ V) : t.c = X.getD (13 * t.i + t.j) 0 := by
 rw [← h.cf t.i t.j (by have := h.old t ht; omega)]; exact (Zgy h.nrm ht).symm
theorem Zy6 {X : List Rat} {d j K D : Nat} {V : List Tm} (hX : Tb D K X) (h : Vis X d j V) (hd : d ≤ 12) : ∀ t ∈ V, (Ks (ab t.c)).size ≤ 20 * K + 10 := fun t ht => by
 refine Zfj _ ?_
 have h1 := h.old t ht
 have h2 := hX.siz (k := 13 * t.i + t.j) oo
 rw [← h.coef ht] at h2
 obtain ⟨e1, e2⟩ := Zcl t.c
 unfold Jr Kk at *; rw [e1, e2]; exact h2
theorem C_fAbs (x : Rat) (a1 : Option Addr) (c1 : Nat) (a2 : Option Addr) (c2 : Nat) : Xl Tryz.prog 107 [fV x a1 c1 a2 c2] (fV (ab x) a1 c1 a2 c2) := by
 refine fn_intro func107 rfl ntmps107 nb ?_
 intro S w0 a hS h
 refine gC h (zS (zx rfl fun b1 => zz Zt7 fun b2 => zn (zs (zS (zd rfl mr isAgg164 sizeOf164 Zs ?_)))))
 refine zv [_] rfl call105 (Zdd x _ _ _ _) (zp (.lss rfl rfl) (zn ?_)); intro a w h
 refine cW ?_
 refine Zb h rfl (fun hc5 => ?_) (fun hc5 => ?_)
 ·
  skip
  have hs : x < 0 := (Zqk x).1 (of_decide_eq_true hc5)
  refine gC h (zS (zd rfl mr isAgg164 sizeOf164 Zs ?_))
  refine zv [_] rfl call155 (C_fNeg x a1 c1 a2 c2) ?_
  have hl7 := Zz9 x
  refine zt' rfl rfl Qw uu sizeOf164 rfl nb rfl ?_; intro a w h
  refine wpList_nil (wp_ret ?_)
  refine Jk h (Zd h rfl (.cell rfl mr isAgg164 sizeOf164 Zs)) ?_
  unfold ab; rw [if_pos hs]
 ·
  skip
  have hs : ¬ x < 0 := fun h => of_decide_eq_false hc5 ((Zqk x).2 h)
  refine gC h (zk (zS (zd rfl mr isAgg164 sizeOf164 Zs ?_)))
  refine zt' rfl rfl Qw uu sizeOf164 rfl nb rfl ?_; intro a w h
  refine wpList_nil (wp_ret ?_)
  refine Jk h (Zd h rfl (.cell rfl mr isAgg164 sizeOf164 Zs)) ?_
  unfold ab; rw [if_neg hs]
theorem Ztz (a1 a2 : Option Addr) (c1 c2 : Nat) (x : Rat) (hx : Jr x ≤ 100000000000) : Gn Tryz.prog 106 [fV (ab x) a1 c1 a2 c2] [Row a1 (List.map Qe (dg x.num.natAbs)), Row a2 (List.map Qe (dg (x.den - 1)))] (.string (Ks (ab x))) := by
 obtain ⟨h1, h2⟩ := Zcl x
 have h := Qbd a1 a2 c1 c2 (ab x) (by unfold Jr Kk at *; rw [h1, h2]; exact hx)
 have e1 : (ab x).num.natAbs = x.num.natAbs := by rw [h1]; rfl
 have e2 : Row a1 (List.map Qe (dg x.num.natAbs)) = Row a1 (List.map Qe (dg (ab x).num.natAbs)) := by rw [e1]
 have e3 : Row a2 (List.map Qe (dg (x.den - 1))) = Row a2 (List.map Qe (dg ((ab x).den - 1))) := by rw [h2]
 rw [e2, e3]; exact h
theorem Qe6 (x y : Int) (w : World) (ty : TypeId) (cs : Array Bool) : (Go.builtin .max #[3, 3] ty cs #[.int .i64 x, .int .i64 y]).run Tryz.prog w = .ok (.value (.int .i64 (max x y))) w := by
 simp [go_sem] <;> (try rw [Int.max_def]) <;> (try split) <;> (try split) <;> (try omega)
theorem Zit (b1 : Nat) (la : List FT) (hla : la.length = 169) : Gn Tryz.prog 143 [.slice (some ⟨b1, 0, none⟩) 169 169] [Row (some ⟨b1, 0, none⟩) (cellsOf Jm la), AllF la] (.int .i64 (dgX (xs la) 169)) := by
 refine fn_intro func143 rfl ntmps143 nb ?_
 intro S w0 a hS h
 refine gC h (zS (za rfl (zn (zS (za rfl (zn (zs (zS (za rfl (zn (zb ?_))))))))))); clear h; intro a w h
 refine Zi (fun (k : Nat) a w => k ≤ 169 ∧ St 23 S w0 [(0, .slice (some ⟨b1, 0, none⟩) 169 169), (2, .int .i64 0), (3, .int .i64 (dgX (xs la) k)), (4, nI k)] [] [Row (some ⟨b1, 0, none⟩) (cellsOf Jm la), AllF la] a w) (fun k => 169 - k) 0 (⟨Nat.zero_le _, by exact (h).sub sA⟩) ?_; clear h
 rintro k a w ⟨hi_k, h⟩
 refine gC h (zs (zS (zm rfl (zp (.lss rfl rfl) (zn ?_))))); clear h; intro a w h
 refine cW ?_
 refine Zb h rfl (fun hc6 => ?_) (fun hc6 => ?_)
 ·
  skip
  have hlt_k : k < 169 := dT hc6
  have hnl := hla
  refine gC h (zk (zs (zb (zS (zm rfl (zm rfl (zp (.indexAddr rfl rfl (Zbs _ _ _ _ _ oo)) (zD rfl mm (cells_lt (k := 3) dd (fun _ => rfl) la k oo) isAgg164 sizeOf164 (Qn (k := 3) (fun _ => rfl) ((fun _ => rfl)) la FT0 k oo) (.inl rfl) ?_))))))))
  refine zv [_] rfl call105 (Zdd ((la.getD k FT0).x) _ _ _ _) (zp (.neq rfl rfl) (zn ?_)); intro a w h
  refine cW ?_
  refine Zb h rfl (fun hc14 => ?_) (fun hc14 => ?_)
  ·
   skip
   have hnz : (xs la).getD k 0 ≠ 0 := fun e => by rw [← Vr] at e; rw [e] at hc14; exact absurd hc14 dd
   refine gC h (zr (zm rfl (zm rfl (zp (Pure1.cast (v' := .int .i64 (((k) / 13 : Nat) : Int)) (.binOp rfl rfl (fun _ => Vl _ _ _ _ _ dd)) (by rw [show (13 : Int) = ((13 : Nat) : Int) from rfl, Yc, wrap_i64 _ oo oo])) (zm rfl (zp (Pure1.cast (v' := .int .i64 (((k) % 13 : Nat) : Int)) (.binOp rfl rfl (fun _ => Zai _ _ _ _ _ dd)) (by rw [show (13 : Int) = ((13 : Nat) : Int) from rfl, Kd])) (zp (.pN (k / 13 + k % 13) (Pure1.cast (v' := (.int .i64 ((((k) / 13) + ((k) % 13) : Nat) : Int))) (.add rfl rfl) (by show Value.int _ _ = Value.int _ _; congr 1))) (zp (.builtin [_, _] rfl (fun w ty cs => Qe6 _ _ w ty cs)) (za rfl (zn (zr (zm rfl (zp (.pN (k + 1) (.add rfl rfl)) (za rfl (zn ?_))))))))))))))); clear h; intro a w h
   rw [show max (dgX (xs la) k) ((k / 13 + k % 13 : Nat) : Int) = dgX (xs la) (k + 1) from (if_neg hnz).symm] at h
   exact ⟨k + 1, ⟨oo, h.sub sA⟩, oo⟩
  ·
   skip
   have hnz : (xs la).getD k 0 = 0 := by rw [← Vr]; exact of_decide_eq_true (by rw [← Qdk]; simpa using hc14)
   refine gC h (zk (zr (zm rfl (zp (.pN (k + 1) (.add rfl rfl)) (za rfl (zn ?_)))))); clear h; intro a w h
   rw [show dgX (xs la) k = dgX (xs la) (k + 1) from (if_pos hnz).symm] at h
   exact ⟨k + 1, ⟨oo, h.sub sA⟩, oo⟩
 ·
  skip
  have heq_k : 169 = k := dF hc6
  subst heq_k
  refine gC h (ze (zS (zm rfl (za rfl (zn (zt ?_)))))); clear h; intro a w h
  exact Zeh h
theorem Zby (s nm : ByteArray) (n : Nat) (hn : n ≤ 12) (hsz : s.size ≤ 1000000000000) (hnm : nm.size ≤ 1) : Xl Tryz.prog 108 [.string s, .string nm, .int .i64 ((n : Nat) : Int)] (.string (Zcn s nm n)) := by
 refine fn_intro func108 rfl ntmps108 nb ?_
 intro S w0 a hS h
 refine gC h (zS (za rfl (zn (zs (zS (zm rfl (zp (.eql rfl rfl) (zn ?_)))))))); clear h; intro a w h
 refine cW ?_
 refine Zb h rfl (fun hc8 => ?_) (fun hc8 => ?_)
 ·
  skip
  have h0 : n = 0 := Zcj hc8
  refine gC h (zS (zm rfl (za rfl (zn (zt ?_))))); clear h; intro a w h
  refine Jk h (Zd h rfl (.tmp rfl)) ?_
  refine congrArg Value.string ?_
  unfold Zcn; first | (rw [if_pos h0]; done) | (rw [if_neg h0, if_pos h1, if_pos hs]; done) | (rw [if_neg h0, if_pos h1, if_neg hs]; done) | (rw [if_neg h0, if_neg h1, if_pos h2, if_pos hs]; done) | (rw [if_neg h0, if_neg h1, if_pos h2, if_neg hs]; done) | (rw [if_neg h0, if_neg h1, if_neg h2, if_pos hs]; done) | (rw [if_neg h0, if_neg h1, if_neg h2, if_neg hs]; done)
 ·
  skip
  have h0 : ¬ n = 0 := Zbn hc8
  refine gC h (zk (zs (zS (zm rfl (zp (.binOp rfl rfl (fun _ => Zef _ _ _ _ _)) (zn ?_)))))); clear h; intro a w h
  refine cW ?_
  refine Zb h rfl (fun hc11 => ?_) (fun hc11 => ?_)
  focus
   have hs : ¬ s = ⟨#[]⟩ := by simpa using hc11
   refine gC h (zr (zm rfl (zp (.binOp rfl rfl (fun _ => Qx _ _ _ _ _ (by have e1 : (ByteArray.mk #[42]).size = 1 := rfl; have e2 : (ByteArray.mk #[94]).size = 1 := rfl; have e3 : (ByteArray.mk #[94, 49]).size = 2 := rfl; have e4 : ∀ b : UInt8, (ByteArray.mk #[b]).size = 1 := fun _ => rfl; (try simp only [ByteArray.size_append, e1, e2, e3, e4]); omega))) (za rfl (zn (zS (zm rfl (zm rfl (zp (.binOp rfl rfl (fun _ => Qx _ _ _ _ _ (by have e1 : (ByteArray.mk #[42]).size = 1 := rfl; have e2 : (ByteArray.mk #[94]).size = 1 := rfl; have e3 : (ByteArray.mk #[94, 49]).size = 2 := rfl; have e4 : ∀ b : UInt8, (ByteArray.mk #[b]).size = 1 := fun _ => rfl; (try simp only [ByteArray.size_append, e1, e2, e3, e4]); omega))) (za rfl (zn (zs (zS (zm rfl (zp (.geq rfl rfl) (zn ?_)))))))))))))))); clear h; intro a w h
  rotate_left
  focus
   have hs : s = ⟨#[]⟩ := by simpa using hc11
   refine gC h (zk (zS (zm rfl (zm rfl (zp (.binOp rfl rfl (fun _ => Qx _ _ _ _ _ (by have e1 : (ByteArray.mk #[42]).size = 1 := rfl; have e2 : (ByteArray.mk #[94]).size = 1 := rfl; have e3 : (ByteArray.mk #[94, 49]).size = 2 := rfl; have e4 : ∀ b : UInt8, (ByteArray.mk #[b]).size = 1 := fun _ => rfl; (try simp only [ByteArray.size_append, e1, e2, e3, e4]); omega))) (za rfl (zn (zs (zS (zm rfl (zp (.geq rfl rfl) (zn ?_)))))))))))); clear h; intro a w h
  all_goals
   refine cW ?_
   refine Zb h rfl (fun hc18 => ?_) (fun hc18 => ?_)
   focus
    have h1 : 10 ≤ n := dT hc18
    refine gC h (zS (zm rfl (zp (.binOp rfl rfl (fun _ => Qx _ _ _ _ _ (by have e1 : (ByteArray.mk #[42]).size = 1 := rfl; have e2 : (ByteArray.mk #[94]).size = 1 := rfl; have e3 : (ByteArray.mk #[94, 49]).size = 2 := rfl; have e4 : ∀ b : UInt8, (ByteArray.mk #[b]).size = 1 := fun _ => rfl; (try simp only [ByteArray.size_append, e1, e2, e3, e4]); omega))) (zm rfl (zp (.pN (48 + n) (Pure1.cast (v' := (.int .i64 ((48 + n : Nat) : Int))) (.add rfl rfl) (by show Value.int _ _ = Value.int _ _; congr 1))) (zp (.pO (48 + n - 10) (.sub rfl rfl)) (zp (.convert rfl (Zpl _ (wrap_u8 _ oo oo))) (zp (.convert rfl (Zpk _ oo)) (zp (.binOp rfl rfl (fun _ => Qx _ _ _ _ _ (by have e1 : (ByteArray.mk #[42]).size = 1 := rfl; have e2 : (ByteArray.mk #[94]).size = 1 := rfl; have e3 : (ByteArray.mk #[94, 49]).size = 2 := rfl; have e4 : ∀ b : UInt8, (ByteArray.mk #[b]).size = 1 := fun _ => rfl; (try simp only [ByteArray.size_append, e1, e2, e3, e4]); omega))) (za rfl (zn (zt ?_)))))))))))); clear h; intro a w h
   rotate_left
   focus
    have h1 : ¬ 10 ≤ n := dF hc18
    refine gC h (zk (zs (zS (zm rfl (zp (.gtr rfl rfl) (zn ?_)))))); clear h; intro a w h
    refine cW ?_
    refine Zb h rfl (fun hc28 => ?_) (fun hc28 => ?_)
    focus
     have h2 : 1 < n := dT hc28
     refine gC h (zS (zm rfl (zp (.binOp rfl rfl (fun _ => Qx _ _ _ _ _ (by have e1 : (ByteArray.mk #[42]).size = 1 := rfl; have e2 : (ByteArray.mk #[94]).size = 1 := rfl; have e3 : (ByteArray.mk #[94, 49]).size = 2 := rfl; have e4 : ∀ b : UInt8, (ByteArray.mk #[b]).size = 1 := fun _ => rfl; (try simp only [ByteArray.size_append, e1, e2, e3, e4]); omega))) (zm rfl (zp (.pN (48 + n) (Pure1.cast (v' := (.int .i64 ((48 + n : Nat) : Int))) (.add rfl rfl) (by show Value.int _ _ = Value.int _ _; congr 1))) (zp (.convert rfl (Zpl _ (wrap_u8 _ oo oo))) (zp (.convert rfl (Zpk _ oo)) (zp (.binOp rfl rfl (fun _ => Qx _ _ _ _ _ (by have e1 : (ByteArray.mk #[42]).size = 1 := rfl; have e2 : (ByteArray.mk #[94]).size = 1 := rfl; have e3 : (ByteArray.mk #[94, 49]).size = 2 := rfl; have e4 : ∀ b : UInt8, (ByteArray.mk #[b]).size = 1 := fun _ => rfl; (try simp only [ByteArray.size_append, e1, e2, e3, e4]); omega))) (za rfl (zn (zt ?_))))))))))); clear h; intro a w h
    rotate_left
    focus
     have h2 : ¬ 1 < n := dF hc28
     refine gC h (zk (zS (zm rfl (za rfl (zn (zt ?_)))))); clear h; intro a w h
   all_goals
    refine Jk h (Zd h rfl (.tmp rfl)) ?_
    refine congrArg Value.string ?_
    unfold Zcn; first | (rw [if_pos h0]; done) | (rw [if_neg h0, if_pos h1, if_pos hs]; done) | (rw [if_neg h0, if_pos h1, if_neg hs]; done) | (rw [if_neg h0, if_neg h1, if_pos h2, if_pos hs]; done) | (rw [if_neg h0, if_neg h1, if_pos h2, if_neg hs]; done) | (rw [if_neg h0, if_neg h1, if_neg h2, if_pos hs]; done) | (rw [if_neg h0, if_neg h1, if_neg h2, if_neg hs]; done)
theorem Qfn (b1 : Nat) (la : List FT) (K : Nat) (ha : Tb 12 K (xs la)) (hK : K ≤ 1000000) : Gn Tryz.prog 65 [.slice (some ⟨b1, 0, none⟩) 169 169] [Row (some ⟨b1, 0, none⟩) (cellsOf Jm la), AllF la] (.string (Zn8 Ks (norm (pol (xs la))))) := by
 refine fn_intro func65 rfl ntmps65 nb ?_
 intro S w0 a hS h
 refine gC h (zS (za rfl (zn (zS (za rfl (zn (zs (zS (za rfl (zn (zb ?_))))))))))); clear h; intro a w h
 refine Zi (fun (d : Nat) a w => d ≤ 13 ∧ ∃ V, (Vis (xs la) d 0 V) ∧ St 76 S w0 [(0, .slice (some ⟨b1, 0, none⟩) 169 169), (2, .string (⟨#[]⟩)), (3, .string (fuA V)), (4, nI d)] [] [Row (some ⟨b1, 0, none⟩) (cellsOf Jm la), AllF la] a w) (fun d => 13 - d) 0 (⟨Nat.zero_le _, [], Vis.zero _, by rw [show fuA [] = ⟨#[]⟩ from rfl]; exact (h).sub sA⟩) ?_; clear h
 rintro d a w ⟨hi_d, V, hvis0, h⟩
 refine gC h (zs (zS (zm rfl (zp (.lss rfl rfl) (zn ?_))))); clear h; intro a w h
 refine cW ?_
 refine Zb h rfl (fun hc10 => ?_) (fun hc10 => ?_)
 ·
  skip
  have hlt_d : d < 13 := dT hc10
  refine gC h (zk (zs (zb (zS (za rfl (zn (zb ?_))))))); clear h; intro a w h
  refine Zi (fun (j : Nat) a w => j ≤ (d + 1) ∧ ∃ V2, (Vis (xs la) d j V2) ∧ St 76 S w0 [(0, .slice (some ⟨b1, 0, none⟩) 169 169), (2, .string (⟨#[]⟩)), (3, .string (fuA V2)), (4, nI d), (5, nI j)] [] [Row (some ⟨b1, 0, none⟩) (cellsOf Jm la), AllF la] a w) (fun j => (d + 1) - j) 0 (⟨Nat.zero_le _, V, hvis0, by exact (h).sub sA⟩) ?_; clear h
  rintro j a w ⟨hi_j, V2, hvis, h⟩
  refine gC h (zs (zS (zm rfl (zm rfl (zp (.leq rfl rfl) (zn ?_)))))); clear h; intro a w h
  refine cW ?_
  refine Zb h rfl (fun hc15 => ?_) (fun hc15 => ?_)
  ·
   skip
   have hlt_j : j < (d + 1) := dT hc15
   have hzl := ha.sizl (k := (13 * (d - j) + j)) oo
   have hnl := ha.lenl
   have hold : ∀ t ∈ V2, t.i < 13 ∧ t.j < 13 := fun t ht => by have := hvis.old t ht; omega
   have hvl : V2.length ≤ 91 := Nat.le_trans (Zkq hvis.nrm (d := 12) (fun t ht => by have := hvis.old t ht; omega)) dd
   have hfs : (fuA V2).size ≤ 91 * (20 * K + 23) := Nat.le_trans (Qak (M := 20 * K + 10) (fun t ht => ⟨(hold t ht).1, (hold t ht).2, Zy6 ha hvis oo t ht⟩)) (Nat.mul_le_mul_right _ hvl)
   replace h := h.derive (R := Row (la.getD ((13 * (d - j) + j)) FT0).a2 (List.map Qe (dg ((la.getD ((13 * (d - j) + j)) FT0).x.den - 1)))) (fun X hX => AllF.g2 (hX _ mm) ((13 * (d - j) + j)))
   replace h := h.derive (R := Row (la.getD ((13 * (d - j) + j)) FT0).a1 (List.map Qe (dg (la.getD ((13 * (d - j) + j)) FT0).x.num.natAbs))) (fun X hX => AllF.g1 (hX _ mm) ((13 * (d - j) + j)))
   refine gC h (zk (zs (zb (zS (zm rfl (zm rfl (zm rfl (zp (.pO (d - j) (.sub rfl rfl)) (zp (.pN (13 * (d - j)) (.mul rfl rfl)) (zm rfl (zp (.pN ((13 * (d - j)) + j) (.add rfl rfl)) (zp (.indexAddr rfl rfl (Zbs _ _ _ _ _ oo)) (zD rfl mm (cells_lt (k := 3) dd (fun _ => rfl) la ((13 * (d - j)) + j) oo) isAgg164 sizeOf164 (Qn (k := 3) (fun _ => rfl) ((fun _ => rfl)) la FT0 ((13 * (d - j)) + j) oo) (.inl rfl) ?_)))))))))))))
   refine zz Zt7 fun b6 => zt' rfl rfl Qw uu sizeOf164 rfl nb rfl ?_
   refine zn (zs (zS (zd rfl mr isAgg164 sizeOf164 Zs ?_)))
   refine zv [_] rfl call105 (Zdd ((la.getD ((13 * (d - j)) + j) FT0).x) _ _ _ _) (zp (.eql rfl rfl) ?_); intro a w h
   refine Zg h (fun hc29 h => ?_) (fun hc29 h => ?_)
   ·
    skip
    have hz : (xs la).getD (13 * (d - j) + j) 0 = 0 := by rw [← Vr]; rw [Qdk] at hc29; exact of_decide_eq_true hc29
    refine wpList_nil ?_
    refine cW ?_
    refine Zj h rfl ?_
    refine gC h (ze (zr (zm rfl (zp (.pN (j + 1) (.add rfl rfl)) (za rfl (zn ?_)))))); clear h; intro a w h
    skip
    exact ⟨j + 1, ⟨oo, V2, hvis.skip oo hz, by exact ((h.drop sl).factsSub (by simp)).sub sA⟩, oo⟩
   ·
    skip
    have hnz : (xs la).getD (13 * (d - j) + j) 0 ≠ 0 := by rw [← Vr]; rw [Qdk] at hc29; exact of_decide_eq_false hc29
    refine wpList_nil ?_
    refine cW ?_
    refine Ze h rfl ?_
    refine gC h (zk (zS (zd rfl mr isAgg164 sizeOf164 Zs ?_)))
    refine zv [_] rfl call107 (C_fAbs ((la.getD (13 * (d - j) + j) FT0).x) _ _ _ _) (zw [_] rfl call106 (Ztz _ _ _ _ ((la.getD (13 * (d - j) + j) FT0).x) oo) ?_)
    have htq := Zfj (ab ((la.getD (13 * (d - j) + j) FT0).x)) (K := K) (by have h9 := ha.sizl (k := (13 * (d - j) + j)) oo; obtain ⟨e1, e2⟩ := Zcl ((la.getD (13 * (d - j) + j) FT0).x); unfold Jr Kk at *; rw [e1, e2]; exact h9)
    have hrs := Zvm (⟨d - j, j, (la.getD (13 * (d - j) + j) FT0).x⟩ : Tm) htq
    refine za rfl (zn (zs (zS (zm rfl (zp (.binOp rfl rfl (fun _ => Jv _ _ _ _ _)) ?_))))); intro a w h
    refine Zg h (fun hc34 h => ?_) (fun hc34 h => ?_)
    focus
     have hs34 : Ks (ab ((la.getD (13 * (d - j) + j) FT0).x)) = ⟨#[49]⟩ := of_decide_eq_true hc34
     refine gL h (zm rfl (zq 35 rfl rfl (.move rfl) (zq 35 rfl rfl (.gtr rfl rfl) ?_))); clear h; intro a w h
     refine Zg h (fun hc37 h => ?_) (fun hc37 h => ?_)
     focus
      have hd37 : 0 < d := dT hc37
      refine gL h (zp (.pickT rfl rfl) (zn ?_)); clear h; intro a w h
      refine cW ?_
      refine Zj h rfl ?_
      refine gC h (zr (za rfl (zn (zS (zm rfl (zm rfl (zm rfl (zp (.pO (d - j) (.sub rfl rfl)) (zv [_, _, _] rfl call108 (Zby (⟨#[]⟩) ⟨#[120]⟩ (d - j) oo (by first | omega | exact Nat.zero_le _) (Nat.le_refl _)) (zm rfl (zv [_, _, _] rfl call108 (Zby (Zcn (⟨#[]⟩) ⟨#[120]⟩ (d - j)) ⟨#[121]⟩ j oo (by have h9 := Zbq (⟨#[]⟩) ⟨#[120]⟩ (d - j) (Nat.le_refl _); first | omega | (have h8 : (ByteArray.mk #[]).size = 0 := rfl; omega)) (Nat.le_refl _)) ?_))))))))))); clear h; intro a w h
      have hSt : (if Ks (ab (⟨d - j, j, (la.getD (13 * (d - j) + j) FT0).x⟩ : Tm).c) = ⟨#[49]⟩ ∧ (⟨d - j, j, (la.getD (13 * (d - j) + j) FT0).x⟩ : Tm).i + (⟨d - j, j, (la.getD (13 * (d - j) + j) FT0).x⟩ : Tm).j > 0 then ⟨#[]⟩ else Ks (ab (⟨d - j, j, (la.getD (13 * (d - j) + j) FT0).x⟩ : Tm).c)) = ⟨#[]⟩ := by first | exact if_pos ⟨hs34, by show 0 < d - j + j; omega⟩ | exact if_neg (fun hh => hs34 hh.1) | exact if_neg (fun hh => by have h7 : d - j + j > 0 := hh.2; omega)
      have hr : Zcn (Zcn (⟨#[]⟩) ⟨#[120]⟩ (d - j)) ⟨#[121]⟩ j = rT (⟨d - j, j, (la.getD (13 * (d - j) + j) FT0).x⟩ : Tm) := by unfold rT; rw [hSt]
     rotate_left
     focus
      have hd37 : ¬ 0 < d := dF hc37
      refine gL h (zp (.pickT rfl rfl) (zn ?_)); clear h; intro a w h
      refine cW ?_
      refine Ze h rfl ?_
      refine gC h (zk (zS (zm rfl (zm rfl (zm rfl (zp (.pO (d - j) (.sub rfl rfl)) (zv [_, _, _] rfl call108 (Zby (Ks (ab ((la.getD (13 * (d - j) + j) FT0).x))) ⟨#[120]⟩ (d - j) oo (by first | omega | exact Nat.zero_le _) (Nat.le_refl _)) (zm rfl (zv [_, _, _] rfl call108 (Zby (Zcn (Ks (ab ((la.getD (13 * (d - j) + j) FT0).x))) ⟨#[120]⟩ (d - j)) ⟨#[121]⟩ j oo (by have h9 := Zbq (Ks (ab ((la.getD (13 * (d - j) + j) FT0).x))) ⟨#[120]⟩ (d - j) (Nat.le_refl _); first | omega | (have h8 : (ByteArray.mk #[]).size = 0 := rfl; omega)) (Nat.le_refl _)) ?_))))))))); clear h; intro a w h
      have hSt : (if Ks (ab (⟨d - j, j, (la.getD (13 * (d - j) + j) FT0).x⟩ : Tm).c) = ⟨#[49]⟩ ∧ (⟨d - j, j, (la.getD (13 * (d - j) + j) FT0).x⟩ : Tm).i + (⟨d - j, j, (la.getD (13 * (d - j) + j) FT0).x⟩ : Tm).j > 0 then ⟨#[]⟩ else Ks (ab (⟨d - j, j, (la.getD (13 * (d - j) + j) FT0).x⟩ : Tm).c)) = Ks (ab ((la.getD (13 * (d - j) + j) FT0).x)) := by first | exact if_pos ⟨hs34, by show 0 < d - j + j; omega⟩ | exact if_neg (fun hh => hs34 hh.1) | exact if_neg (fun hh => by have h7 : d - j + j > 0 := hh.2; omega)
      have hr : Zcn (Zcn (Ks (ab ((la.getD (13 * (d - j) + j) FT0).x))) ⟨#[120]⟩ (d - j)) ⟨#[121]⟩ j = rT (⟨d - j, j, (la.getD (13 * (d - j) + j) FT0).x⟩ : Tm) := by unfold rT; rw [hSt]
    rotate_left 2
    focus
     have hs34 : ¬ Ks (ab ((la.getD (13 * (d - j) + j) FT0).x)) = ⟨#[49]⟩ := of_decide_eq_false hc34
     refine gL h (zm rfl (zo 35 rfl rfl rfl (zo 35 rfl rfl rfl (zp (.pickF rfl rfl) (zn ?_))))); clear h; intro a w h
     refine cW ?_
     refine Ze h rfl ?_
     refine gC h (zk (zS (zm rfl (zm rfl (zm rfl (zp (.pO (d - j) (.sub rfl rfl)) (zv [_, _, _] rfl call108 (Zby (Ks (ab ((la.getD (13 * (d - j) + j) FT0).x))) ⟨#[120]⟩ (d - j) oo (by first | omega | exact Nat.zero_le _) (Nat.le_refl _)) (zm rfl (zv [_, _, _] rfl call108 (Zby (Zcn (Ks (ab ((la.getD (13 * (d - j) + j) FT0).x))) ⟨#[120]⟩ (d - j)) ⟨#[121]⟩ j oo (by have h9 := Zbq (Ks (ab ((la.getD (13 * (d - j) + j) FT0).x))) ⟨#[120]⟩ (d - j) (Nat.le_refl _); first | omega | (have h8 : (ByteArray.mk #[]).size = 0 := rfl; omega)) (Nat.le_refl _)) ?_))))))))); clear h; intro a w h
     have hSt : (if Ks (ab (⟨d - j, j, (la.getD (13 * (d - j) + j) FT0).x⟩ : Tm).c) = ⟨#[49]⟩ ∧ (⟨d - j, j, (la.getD (13 * (d - j) + j) FT0).x⟩ : Tm).i + (⟨d - j, j, (la.getD (13 * (d - j) + j) FT0).x⟩ : Tm).j > 0 then ⟨#[]⟩ else Ks (ab (⟨d - j, j, (la.getD (13 * (d - j) + j) FT0).x⟩ : Tm).c)) = Ks (ab ((la.getD (13 * (d - j) + j) FT0).x)) := by first | exact if_pos ⟨hs34, by show 0 < d - j + j; omega⟩ | exact if_neg (fun hh => hs34 hh.1) | exact if_neg (fun hh => by have h7 : d - j + j > 0 := hh.2; omega)
     have hr : Zcn (Zcn (Ks (ab ((la.getD (13 * (d - j) + j) FT0).x))) ⟨#[120]⟩ (d - j)) ⟨#[121]⟩ j = rT (⟨d - j, j, (la.getD (13 * (d - j) + j) FT0).x⟩ : Tm) := by unfold rT; rw [hSt]
    all_goals
     rw [hr] at h
     refine gL h (za rfl (zn (zS (zd rfl mr isAgg164 sizeOf164 Zs ?_))))
     refine zv [_] rfl call105 (Zdd ((la.getD ((13 * (d - j)) + j) FT0).x) _ _ _ _) (zp (.lss rfl rfl) (za rfl (zn (zs (zb (zS (zm rfl (zp (.binOp rfl rfl (fun _ => Jv _ _ _ _ _)) ?_)))))))); intro a w h
     refine Zg h (fun hc51 h => ?_) (fun hc51 h => ?_)
     focus
      have hs51 : fuA V2 = ⟨#[]⟩ := of_decide_eq_true hc51
      refine gL h (zm rfl (zq 52 rfl rfl (.move rfl) (zp (.pickT rfl rfl) (za rfl (zn ?_))))); clear h; intro a w h
      refine cW ?_
      refine Zb h rfl (fun hc49 => ?_) (fun hc49 => ?_)
      focus
       have hsg : ((la.getD (13 * (d - j) + j) FT0).x).num.sign < 0 := of_decide_eq_true hc49
       refine gC h (zr (zm rfl (zp (.binOp rfl rfl (fun _ => Qx _ _ _ _ _ (by have e1 : (ByteArray.mk #[45]).size = 1 := rfl; have e3 : (ByteArray.mk #[32, 45, 32]).size = 3 := rfl; have e4 : (ByteArray.mk #[32, 43, 32]).size = 3 := rfl; (try simp only [ByteArray.size_append, e1, e3, e4]); omega))) (za rfl (zn (zr (zm rfl (zm rfl (zp (.binOp rfl rfl (fun _ => Qx _ _ _ _ _ (by have e1 : (ByteArray.mk #[45]).size = 1 := rfl; have e3 : (ByteArray.mk #[32, 45, 32]).size = 3 := rfl; have e4 : (ByteArray.mk #[32, 43, 32]).size = 3 := rfl; (try simp only [ByteArray.size_append, e1, e3, e4]); omega))) (za rfl (zn (zr (zm rfl (zp (.pN (j + 1) (.add rfl rfl)) (za rfl (zn ?_)))))))))))))))); clear h; intro a w h
       have hV0 : V2 = [] := (Zk2 hold).1 hs51
       have hst : fuA V2 ++ ((⟨#[45]⟩) ++ (rT (⟨d - j, j, (la.getD (13 * (d - j) + j) FT0).x⟩ : Tm))) = fuA (V2 ++ [(⟨d - j, j, (la.getD (13 * (d - j) + j) FT0).x⟩ : Tm)]) := by
        have h9 := Zm2 (t := (⟨d - j, j, (la.getD (13 * (d - j) + j) FT0).x⟩ : Tm)) (by simp only; omega) (by simp only; omega) (((⟨#[45]⟩) ++ (rT (⟨d - j, j, (la.getD (13 * (d - j) + j) FT0).x⟩ : Tm)))) (by first | exact (if_pos hsg).symm | exact (if_neg hsg).symm)
        rw [hV0]; exact h9
      rotate_left
      focus
       have hsg : ¬ ((la.getD (13 * (d - j) + j) FT0).x).num.sign < 0 := of_decide_eq_false hc49
       refine gC h (zS (zm rfl (zp (.binOp rfl rfl (fun _ => Zef _ _ _ _ _)) ?_))); clear h; intro a w h
       refine Zg h (fun hc59 h => (by exfalso; have h8 : ¬ fuA V2 = ⟨#[]⟩ := (by simpa using hc59); exact h8 hs51)) (fun hc59 h => ?_)
       refine gL h (zm rfl (zo 60 rfl rfl rfl (zp (.pickF rfl rfl) (za rfl (zn ?_))))); clear h; intro a w h
       refine cW ?_
       refine Ze h rfl ?_
       refine gC h (zS (zm rfl (zp (.binOp rfl rfl (fun _ => Zef _ _ _ _ _)) ?_))); clear h; intro a w h
       refine Zg h (fun hc67 h => (by exfalso; have h8 : ¬ fuA V2 = ⟨#[]⟩ := (by simpa using hc67); exact h8 hs51)) (fun hc67 h => ?_)
       refine gL h (za rfl (zn ?_)); clear h; intro a w h
       refine cW ?_
       refine Ze h rfl ?_
       refine gC h (zk (zr (zm rfl (zm rfl (zp (.binOp rfl rfl (fun _ => Qx _ _ _ _ _ (by have e1 : (ByteArray.mk #[45]).size = 1 := rfl; have e3 : (ByteArray.mk #[32, 45, 32]).size = 3 := rfl; have e4 : (ByteArray.mk #[32, 43, 32]).size = 3 := rfl; (try simp only [ByteArray.size_append, e1, e3, e4]); omega))) (za rfl (zn (zr (zm rfl (zp (.pN (j + 1) (.add rfl rfl)) (za rfl (zn ?_)))))))))))); clear h; intro a w h
       have hV0 : V2 = [] := (Zk2 hold).1 hs51
       have hst : fuA V2 ++ (rT (⟨d - j, j, (la.getD (13 * (d - j) + j) FT0).x⟩ : Tm)) = fuA (V2 ++ [(⟨d - j, j, (la.getD (13 * (d - j) + j) FT0).x⟩ : Tm)]) := by
        have h9 := Zm2 (t := (⟨d - j, j, (la.getD (13 * (d - j) + j) FT0).x⟩ : Tm)) (by simp only; omega) (by simp only; omega) ((rT (⟨d - j, j, (la.getD (13 * (d - j) + j) FT0).x⟩ : Tm))) (by first | exact (if_pos hsg).symm | exact (if_neg hsg).symm)
        rw [hV0]; exact h9
     rotate_left 2
     focus
      have hs51 : ¬ fuA V2 = ⟨#[]⟩ := of_decide_eq_false hc51
      refine gL h (zm rfl (zo 52 rfl rfl rfl (zp (.pickF rfl rfl) (za rfl (zn ?_))))); clear h; intro a w h
      refine cW ?_
      refine Ze h rfl ?_
      refine gC h (zS (zm rfl (zp (.binOp rfl rfl (fun _ => Zef _ _ _ _ _)) ?_))); clear h; intro a w h
      refine Zg h (fun hc59 h => ?_) (fun hc59 h => (by exfalso; have h8 : fuA V2 = ⟨#[]⟩ := (by simpa using hc59); exact hs51 h8))
      refine gL h (zm rfl (zq 60 rfl rfl (.move rfl) (zp (.pickT rfl rfl) (za rfl (zn ?_))))); clear h; intro a w h
      refine cW ?_
      refine Zb h rfl (fun hc57 => ?_) (fun hc57 => ?_)
      focus
       have hsg : ((la.getD (13 * (d - j) + j) FT0).x).num.sign < 0 := of_decide_eq_true hc57
       refine gC h (zr (zm rfl (zp (.binOp rfl rfl (fun _ => Qx _ _ _ _ _ (by have e1 : (ByteArray.mk #[45]).size = 1 := rfl; have e3 : (ByteArray.mk #[32, 45, 32]).size = 3 := rfl; have e4 : (ByteArray.mk #[32, 43, 32]).size = 3 := rfl; (try simp only [ByteArray.size_append, e1, e3, e4]); omega))) (za rfl (zn (zr (zm rfl (zm rfl (zp (.binOp rfl rfl (fun _ => Qx _ _ _ _ _ (by have e1 : (ByteArray.mk #[45]).size = 1 := rfl; have e3 : (ByteArray.mk #[32, 45, 32]).size = 3 := rfl; have e4 : (ByteArray.mk #[32, 43, 32]).size = 3 := rfl; (try simp only [ByteArray.size_append, e1, e3, e4]); omega))) (za rfl (zn (zr (zm rfl (zp (.pN (j + 1) (.add rfl rfl)) (za rfl (zn ?_)))))))))))))))); clear h; intro a w h
       have hV0 : V2 ≠ [] := fun e9 => hs51 ((Zk2 hold).2 e9)
       have hst : fuA V2 ++ ((⟨#[32, 45, 32]⟩) ++ (rT (⟨d - j, j, (la.getD (13 * (d - j) + j) FT0).x⟩ : Tm))) = fuA (V2 ++ [(⟨d - j, j, (la.getD (13 * (d - j) + j) FT0).x⟩ : Tm)]) := Zrn (t := (⟨d - j, j, (la.getD (13 * (d - j) + j) FT0).x⟩ : Tm)) (by simp only; omega) (by simp only; omega) hV0 (((⟨#[32, 45, 32]⟩) ++ (rT (⟨d - j, j, (la.getD (13 * (d - j) + j) FT0).x⟩ : Tm)))) (by first | exact (if_pos hsg).symm | exact (if_neg hsg).symm)
      rotate_left
      focus
       have hsg : ¬ ((la.getD (13 * (d - j) + j) FT0).x).num.sign < 0 := of_decide_eq_false hc57
       refine gC h (zS (zm rfl (zp (.binOp rfl rfl (fun _ => Zef _ _ _ _ _)) ?_))); clear h; intro a w h
       refine Zg h (fun hc67 h => ?_) (fun hc67 h => (by exfalso; have h8 : fuA V2 = ⟨#[]⟩ := (by simpa using hc67); exact hs51 h8))
       refine gL h (za rfl (zn ?_)); clear h; intro a w h
       refine cW ?_
       refine Zj h rfl ?_
       refine gC h (zr (zm rfl (zp (.binOp rfl rfl (fun _ => Qx _ _ _ _ _ (by have e1 : (ByteArray.mk #[45]).size = 1 := rfl; have e3 : (ByteArray.mk #[32, 45, 32]).size = 3 := rfl; have e4 : (ByteArray.mk #[32, 43, 32]).size = 3 := rfl; (try simp only [ByteArray.size_append, e1, e3, e4]); omega))) (za rfl (zn (zr (zm rfl (zm rfl (zp (.binOp rfl rfl (fun _ => Qx _ _ _ _ _ (by have e1 : (ByteArray.mk #[45]).size = 1 := rfl; have e3 : (ByteArray.mk #[32, 45, 32]).size = 3 := rfl; have e4 : (ByteArray.mk #[32, 43, 32]).size = 3 := rfl; (try simp only [ByteArray.size_append, e1, e3, e4]); omega))) (za rfl (zn (zr (zm rfl (zp (.pN (j + 1) (.add rfl rfl)) (za rfl (zn ?_)))))))))))))))); clear h; intro a w h
       have hV0 : V2 ≠ [] := fun e9 => hs51 ((Zk2 hold).2 e9)
       have hst : fuA V2 ++ ((⟨#[32, 43, 32]⟩) ++ (rT (⟨d - j, j, (la.getD (13 * (d - j) + j) FT0).x⟩ : Tm))) = fuA (V2 ++ [(⟨d - j, j, (la.getD (13 * (d - j) + j) FT0).x⟩ : Tm)]) := Zrn (t := (⟨d - j, j, (la.getD (13 * (d - j) + j) FT0).x⟩ : Tm)) (by simp only; omega) (by simp only; omega) hV0 (((⟨#[32, 43, 32]⟩) ++ (rT (⟨d - j, j, (la.getD (13 * (d - j) + j) FT0).x⟩ : Tm)))) (by first | exact (if_pos hsg).symm | exact (if_neg hsg).symm)
     all_goals
      rw [hst] at h
      exact ⟨j + 1, ⟨oo, V2 ++ [(⟨d - j, j, (la.getD (13 * (d - j) + j) FT0).x⟩ : Tm)], by have h9 := hvis.step oo hnz; rw [← Vr] at h9; exact h9, by exact ((h.drop sl).factsSub (by simp)).sub sA⟩, oo⟩
  ·
   skip
   have heq_j : (d + 1) = j := dF hc15
   subst heq_j
   refine gC h (ze (zr (zm rfl (zp (.pN (d + 1) (.add rfl rfl)) (za rfl (zn ?_)))))); clear h; intro a w h
   exact ⟨d + 1, ⟨oo, V2, hvis.row, by exact h.sub sA⟩, oo⟩
 ·
  skip
  have heq_d : 13 = d := dF hc10
  subst heq_d
  refine gC h (ze (zs (zS (zm rfl (zp (.binOp rfl rfl (fun _ => Jv _ _ _ _ _)) (zn ?_)))))); clear h; intro a w h
  refine cW ?_
  refine Zb h rfl (fun hc74 => ?_) (fun hc74 => ?_)
  ·
   skip
   have hs74 : fuA V = ⟨#[]⟩ := of_decide_eq_true hc74
   refine gC h (zS (za rfl (zn (zt ?_)))); clear h; intro a w h
   refine Jk h (Zd h rfl (.tmp rfl)) ?_
   rw [← hvis0.all ha, Zp7, if_pos hs74]
  ·
   skip
   have hs74 : ¬ fuA V = ⟨#[]⟩ := of_decide_eq_false hc74
   refine gC h (zk (zS (zm rfl (za rfl (zn (zt ?_)))))); clear h; intro a w h
   refine Jk h (Zd h rfl (.tmp rfl)) ?_
   rw [← hvis0.all ha, Zp7, if_neg hs74]
end
section
abbrev fPt (x : Rat) (a1 : Option Addr) (c1 : Nat) (a2 : Option Addr) (c2 : Nat) (y : Rat) (b1 : Option Addr) (d1 : Nat) (b2 : Option Addr) (d2 : Nat) : Value :=
 .agg #[.bool (decide (x.num < 0)), .slice a1 (dg x.num.natAbs).length c1, .slice a2 (dg (x.den - 1)).length c2, .bool (decide (y.num < 0)), .slice b1 (dg y.num.natAbs).length d1, .slice b2 (dg (y.den - 1)).length d2]
end
section
def dxX (A : List Rat) : Nat → List Rat
 | 0 => List.replicate 169 0
 | k + 1 => (dxX A k).set k (A.getD (k + 13) 0 * ((((k + 13) / 13 : Nat) : Int) : Rat))
def dyX (A : List Rat) : Nat → List Rat
 | 0 => List.replicate 169 0
 | k + 1 => if k % 13 > 0 then (dyX A k).set (k - 1) (A.getD k 0 * (((k % 13 : Nat) : Int) : Rat)) else dyX A k
def atF (A : List Rat) (x y : Rat) : Nat → Rat
 | 0 => 0
 | k + 1 => atF A x y k + A.getD k 0 * x ^ (k / 13) * y ^ (k % 13)
end
section
theorem Tb.exact {d K N : Nat} {X : List Rat} (h : Tb d K X) (hN : Yz (norm (pol X)) ≤ (N : Int)) : Tb N K X :=
 Tb.of_eqv h.len (Eqv.nrm (pol X)).symm (Qfj (Yd _) hN) (h.hgt.nrm)
def PostX (G : Prop) (d K : Nat) (p : List Tm) (v : Value) (Ψ : List Zp) : Prop := ∃ b l e, v = .tuple #[.slice (some ⟨b, 0, none⟩) 169 169, .int .i64 e] ∧ (e = 0 ∧ G ∧ Tb d K (xs l) ∧ Eqv (pol (xs l)) p ∨ e = 9 ∧ ¬ G ∧ l.length = 169 ∧ Eqv (pol (xs l)) []) ∧ Ψ = [Row (some ⟨b, 0, none⟩) (cellsOf Jm l), AllF l]
end
section
def PostNl (v : Value) (Ψ : List Zp) : Prop := ∃ ad c, v = .slice ad 0 c ∧ Ψ = [Row ad (cellsOf Qb [])]
def PostNk (v : Value) (Ψ : List Zp) : Prop := ∃ ad c, v = .tuple #[.slice ad 0 c, .int .i64 0] ∧ Ψ = [Row ad (cellsOf Qb [])]
end
section
def vZ (Z : List Tz) : List Tm := if Zwy Z = 0 then Z.map tmZ else []
def resE (er : Int) (p : List Tm) : List Tm := if er = 0 then norm p else []
def MulC (p q : List Tm) (er : Int) : Prop := (er = 0 ∧ ∃ da db : Nat, da + db ≤ 12 ∧ DL da p ∧ DL db q) ∨ (er = 9 ∧ ∃ M N : Nat, Yz (norm p) = (M : Int) ∧ Yz (norm q) = (N : Int) ∧ 12 < M + N)
def PowC (p : List Tm) (n : Nat) (er : Int) : Prop := (er = 0 ∧ ∃ d : Nat, d ≤ 12 ∧ n * d ≤ 12 ∧ DL d p) ∨ (er = 9 ∧ ∃ D : Nat, D ≤ 12 ∧ Yz (norm p) = (D : Int) ∧ 12 < n * D)
theorem MulC.nil {er : Int} (h : MulC [] [] er) : er = 0 := by
 rcases h with ⟨h, _⟩ | ⟨_, M, N, h1, _⟩
 · exact h
 · rw [Zgz, Zrt] at h1; omega
theorem PowC.nil {n : Nat} {er : Int} (h : PowC [] n er) : er = 0 := by
 rcases h with ⟨h, _⟩ | ⟨_, D, _, h1, _⟩
 · exact h
 · rw [Zgz, Zrt] at h1; omega
def PowI (p : List Tm) (n : Int) (er : Int) : Prop := (∃ k : Nat, n = (k : Int) ∧ k ≤ 12 ∧ PowC p k er) ∨ (er = 1 ∧ (n < 0 ∨ 12 < n))
end
section
end
section
def Zy0 (t : Tm) : List Tm → List Tm
 | [] => [t]
 | s :: l => if ltT t s = true then t :: s :: l else s :: Zy0 t l
def nIn (l : List Tm) : List Tm := ((collect l).filter (fun t => decide (t.c ≠ 0))).foldr Zy0 []
theorem Zh0 (t : Tm) : ∀ l : List Tm, (Zy0 t l).Perm (t :: l)
 | [] => List.Perm.refl _
 | s :: l => by
  rw [Zy0]; split
  · exact List.Perm.refl _
  · exact ((Zh0 t l).cons s).trans (List.Perm.swap t s l)
theorem Zhz (t : Tm) : ∀ {l : List Tm}, l.Pairwise (fun s u => ltT u s = false) → (Zy0 t l).Pairwise (fun s u => ltT u s = false)
 | [], _ => List.pairwise_singleton _ _
 | s :: l, h => by
  obtain ⟨h1, h2⟩ := List.pairwise_cons.1 h
  rw [Zy0]; split
  ·
   rename_i hc
   refine List.pairwise_cons.2 ⟨fun u hu => ?_, h⟩
   have h3 : ltT s t = false := by
    rw [Bool.eq_false_iff]; intro h4; have := Zeo hc h4; rw [Zfw] at this; cases this
   rcases List.mem_cons.1 hu with rfl | hu
   · exact h3
   · exact Zfv (h1 u hu) h3
  ·
   rename_i hc
   refine List.pairwise_cons.2 ⟨fun u hu => ?_, Zhz t h2⟩
   rcases List.mem_cons.1 ((Zh0 t l).mem_iff.1 hu) with rfl | hu
   · simpa using hc
   · exact h1 u hu
theorem Zez : ∀ l : List Tm, (l.foldr Zy0 []).Perm l ∧ (l.foldr Zy0 []).Pairwise (fun s u => ltT u s = false)
 | [] => ⟨List.Perm.refl _, List.Pairwise.nil⟩
 | t :: l => by
  obtain ⟨h1, h2⟩ := Zez l
  rw [List.foldr_cons]
  exact ⟨(Zh0 t _).trans (h1.cons t), Zhz t h2⟩
theorem nI_nrm (l : List Tm) : Nrm (nIn l) := by
 obtain ⟨hp, hs⟩ := Zez ((collect l).filter (fun t => decide (t.c ≠ 0)))
 refine ⟨fun t ht => ?_, ?_⟩
 ·
  have := hp.mem_iff.1 ht
  rw [List.mem_filter] at this
  simpa using this.2
 ·
  have h1 : dif ((collect l).filter (fun t => decide (t.c ≠ 0))) := List.Pairwise.filter _ (Zd5 l)
  have hd : dif (nIn l) := (List.Perm.pairwise_iff (fun {x y} h h2 => h ⟨h2.1.symm, h2.2.symm⟩) hp).2 h1
  refine List.Pairwise.imp₂ (fun s t h1 h2 => ?_) hs hd
  rcases h : ltT s t with _ | _
  · exact absurd (Zc0 h h1) h2
  · rfl
theorem Gs (l : List Tm) : nIn l = norm l := Zfu (nI_nrm l) (Yd l) (fun φ => by
 rw [Vj, nIn, Zkt φ (Zez _).1, Zbp, Zhw])
abbrev Fa := Int × Nat
def chA (s : ByteArray) (k : Nat) : Nat := (s.data.toList.getD k 0).toNat
def Zfo (s : ByteArray) : Nat → Nat → Nat
 | 0, k => k
 | f + 1, k => if k < s.size ∧ chA s k = 32 then Zfo s f (k + 1) else k
def Zm (s : ByteArray) (k : Nat) : Nat := Zfo s (s.size - k) k
def Yu (s : ByteArray) (k : Nat) : Nat := if Zm s k = s.size then 0 else chA s (Zm s k)
def Zn (s : ByteArray) (c k : Nat) : Bool := decide (Yu s k = c) && !decide (Zm s k = s.size)
def Gm (c : Nat) : Bool := decide (48 ≤ c) && decide (c ≤ 57)
def Zds (s : ByteArray) (from_ : Nat) : Nat → Nat → Nat
 | 0, k => k
 | f + 1, k => if k < s.size ∧ Gm (chA s k) = true ∧ (k = from_ ∨ chA s from_ ≠ 48) then Zds s from_ f (k + 1) else k
def Vg (s : ByteArray) (a : Nat) : Nat → Nat
 | 0 => 0
 | n + 1 => 10 * Vg s a n + (chA s (a + n) - 48)
def Vy (s : ByteArray) (k : Nat) : Except Fa (Nat × Nat × Nat) :=
 let a := Zm s k
 if Gm (Yu s k) = false then .error (4, a)
 else let b := Zds s a (s.size - a) a; .ok (Vg s a (b - a), a, b)
def Je (n : Nat) : Nat := if n = 0 then 0 else n.log2 + 1
def Qf (p : List Tm) : Nat := p.foldl (fun n t => n + (Je t.c.num.natAbs + Je t.c.den)) 0
abbrev Ins := Option (Nat → Except Fa (List Tm × Nat))
def Vq (s : ByteArray) (inside : Ins) (k : Nat) : Except Fa (List Tm × Nat) :=
 if Zn s 120 k = true then .ok ([⟨1, 0, 1⟩], Zm s k + 1)
 else if Zn s 121 k = true then .ok ([⟨0, 1, 1⟩], Zm s k + 1)
 else if Zn s 40 k = true then
  match inside with
  | none => .error (3, Zm s k)
  | some f =>
   match f (Zm s k + 1) with
   | .error e => .error e
   | .ok (p, k2) => if Zn s 41 k2 = true then .ok (p, Zm s k2 + 1) else .error (4, Zm s k2)
 else
  match Vy s k with
  | .error e => .error e
  | .ok (n, _, b) => .ok (nIn [⟨0, 0, ((n : Int) : Rat)⟩], b)
def Ye (s : ByteArray) (inside : Ins) (k : Nat) : Except Fa (List Tm × Nat) :=
 match Vq s inside k with
 | .error e => .error e
 | .ok (p, k2) =>
  if Zn s 94 k2 = true then
   match Vy s (Zm s k2 + 1) with
   | .error e => .error e
   | .ok (n, _, b) =>
    if n > 12 ∨ (n : Int) * Yz p > 12 then .error (9, Zm s k2)
    else if n * Qf p > 16384 then .error (3, Zm s k2)
    else .ok (nIn (Zea p n), b)
  else .ok (p, Zm s k2)
def Vx (s : ByteArray) (inside : Ins) : Nat → List Tm → Nat → Except Fa (List Tm × Nat)
 | 0, p, k => .ok (p, k)
 | f + 1, p, k =>
  if Zn s 42 k = true then
   match Ye s inside (Zm s k + 1) with
   | .error e => .error e
   | .ok (q, b) =>
    if Yz p ≥ 0 ∧ Yz q ≥ 0 ∧ Yz p + Yz q > 12 then .error (9, Zm s k)
    else if Qf p + Qf q > 16384 then .error (3, Zm s k)
    else Vx s inside f (nIn (Vh p q)) b
  else if Zn s 47 k = true then
   match Vy s (Zm s k + 1) with
   | .error e => .error e
   | .ok (n, c, b) =>
    if n = 0 then .error (5, c)
    else if Qf p + Je n > 16384 then .error (3, Zm s k)
    else Vx s inside f (nIn (Qj (1 / ((n : Int) : Rat)) p)) b
  else .ok (p, Zm s k)
def Ke (s : ByteArray) (inside : Ins) (k : Nat) : Except Fa (List Tm × Nat) :=
 match Ye s inside k with
 | .error e => .error e
 | .ok (p, b) => Vx s inside (s.size - b + 1) p b
def Ziv (s : ByteArray) (inside : Ins) : Nat → List Tm → Nat → Except Fa (List Tm × Nat)
 | 0, p, k => .ok (p, k)
 | f + 1, p, k =>
  if Zn s 43 k = true ∨ Zn s 45 k = true then
   match Ke s inside (Zm s k + 1) with
   | .error e => .error e
   | .ok (q, b) =>
    if Qf p + Qf q > 16384 then .error (3, Zm s k)
    else Ziv s inside f (if Zn s 43 k = true then nIn (p ++ q) else nIn (p ++ Qj ((-1 : Int) : Rat) q)) b
  else .ok (p, Zm s k)
def Zoj (s : ByteArray) (inside : Ins) (k : Nat) : Except Fa (List Tm × Nat) :=
 match Ke s inside (if Zn s 45 k = true then Zm s k + 1 else Zm s k) with
 | .error e => .error e
 | .ok (p, b) => Ziv s inside (s.size - b + 1) (if Zn s 45 k = true then nIn (Qj ((-1 : Int) : Rat) p) else p) b
def sumE (s : ByteArray) : Nat → Nat → Except Fa (List Tm × Nat)
 | 0 => Zoj s none
 | n + 1 => Zoj s (some (sumE s n))
def Gx (s : ByteArray) : Nat → Nat
 | 0 => 0
 | n + 1 => if chA s n = 32 then Gx s n else n + 1
def Zgk (s : ByteArray) : Except Fa (List Tm) :=
 match sumE s 32 0 with
 | .error e => .error e
 | .ok (p, k) => if Zm s k < s.size then .error (4, Zm s k) else .ok p
def Jd (s0 : ByteArray) : Except Fa (List Tm) :=
 if s0.size > 4096 then .error (3, 0) else Zgk (s0.extract 0 (Gx s0 s0.size))
end
section
theorem Zu1 {s : ByteArray} {k : Nat} (h : ¬ (k < s.size ∧ chA s k = 32)) : ∀ f, Zfo s f k = k
 | 0 => rfl
 | f + 1 => by rw [Zfo, if_neg h]
theorem Zqj (s : ByteArray) : ∀ f k, k ≤ Zfo s f k
 | 0, _ => Nat.le_refl _
 | f + 1, k => by
  rw [Zfo]; split
  · have := Zqj s f (k + 1); omega
  · exact Nat.le_refl _
theorem Zqi (s : ByteArray) : ∀ f k, k ≤ s.size → Zfo s f k ≤ s.size
 | 0, _, h => h
 | f + 1, k, h => by
  rw [Zfo]; split
  · exact Zqi s f (k + 1) oo
  · exact h
theorem Zjb (s : ByteArray) : ∀ f k, s.size - k ≤ f → ¬ (Zfo s f k < s.size ∧ chA s (Zfo s f k) = 32)
 | 0, k, h => by rw [Zfo]; omega
 | f + 1, k, h => by
  rw [Zfo]; split
  · exact Zjb s f (k + 1) oo
  · assumption
theorem Xd (s : ByteArray) (k : Nat) : k ≤ Zm s k := Zqj s _ k
theorem Ja {s : ByteArray} {k : Nat} (h : k ≤ s.size) : Zm s k ≤ s.size := Zqi s _ k h
theorem Zxm (s : ByteArray) (k : Nat) : ¬ (Zm s k < s.size ∧ chA s (Zm s k) = 32) := Zjb s _ k (Nat.le_refl _)
theorem Zdo {s : ByteArray} {k : Nat} (h : ¬ (k < s.size ∧ chA s k = 32)) : Zm s k = k := Zu1 h _
theorem Kr (s : ByteArray) (k : Nat) : Zm s (Zm s k) = Zm s k := Zdo (Zxm s k)
theorem Ze9 {s : ByteArray} {k : Nat} (h1 : k < s.size) (h2 : chA s k = 32) : Zm s (k + 1) = Zm s k := by
 have e : s.size - k = (s.size - (k + 1)) + 1 := oo
 conv => rhs; rw [Zm, e, Zfo, if_pos ⟨h1, h2⟩]
 rfl
theorem Zmm (s : ByteArray) (k : Nat) : Yu s (Zm s k) = Yu s k := by unfold Yu; rw [Kr]
theorem Zbl (s : ByteArray) (c k : Nat) : Zn s c (Zm s k) = Zn s c k := by unfold Zn; rw [Zmm, Kr]
theorem Zz {s : ByteArray} {c k : Nat} (hk : k ≤ s.size) (h : Zn s c k = true) : Zm s k < s.size := by
 have := Ja hk
 unfold Zn at h
 rw [Bool.and_eq_true, Bool.not_eq_true', decide_eq_false_iff_not] at h
 omega
theorem Zia (s : ByteArray) (a : Nat) : ∀ f k, k ≤ Zds s a f k
 | 0, _ => Nat.le_refl _
 | f + 1, k => by
  rw [Zds]; split
  · have := Zia s a f (k + 1); omega
  · exact Nat.le_refl _
theorem Zw4 (s : ByteArray) (a : Nat) : ∀ f k, k ≤ s.size → Zds s a f k ≤ s.size
 | 0, _, h => h
 | f + 1, k, h => by
  rw [Zds]; split
  · exact Zw4 s a f (k + 1) oo
  · exact h
theorem Zar {s : ByteArray} {a k : Nat} (h : k < s.size ∧ Gm (chA s k) = true ∧ (k = a ∨ chA s a ≠ 48)) : Zds s a (s.size - (k + 1)) (k + 1) = Zds s a (s.size - k) k := by
 have e : s.size - k = (s.size - (k + 1)) + 1 := oo
 rw [e, Zds, if_pos h]
theorem Gj {s : ByteArray} {a k : Nat} (h : ¬ (k < s.size ∧ Gm (chA s k) = true ∧ (k = a ∨ chA s a ≠ 48))) : Zds s a (s.size - k) k = k := by
 rcases e : s.size - k with _ | f
 · rfl
 · rw [Zds, if_neg h]
theorem Zrr (s : ByteArray) (a : Nat) : ∀ f k, (∀ i, a ≤ i → i < k → Gm (chA s i) = true) → ∀ i, a ≤ i → i < Zds s a f k → Gm (chA s i) = true
 | 0, _, h, i, h1, h2 => h i h1 h2
 | f + 1, k, h, i, h1, h2 => by
  rw [Zds] at h2
  split at h2
  ·
   rename_i hc
   refine Zrr s a f (k + 1) (fun j j1 j2 => ?_) i h1 h2
   by_cases e : j = k
   · subst e; exact hc.2.1
   · exact h j j1 oo
  · exact h i h1 h2
theorem Znd (s : ByteArray) (a : Nat) (h : chA s a = 48) : ∀ f k, k ≤ a + 1 → Zds s a f k ≤ a + 1
 | 0, _, hk => hk
 | f + 1, k, hk => by
  rw [Zds]; split
  ·
   rename_i hc
   rcases hc.2.2 with e | e
   · exact Znd s a h f (k + 1) oo
   · exact absurd h e
  · exact hk
theorem Zfh (s : ByteArray) (a : Nat) : ∀ n, (∀ i, a ≤ i → i < a + n → Gm (chA s i) = true) → Vg s a n < 10 ^ n
 | 0, _ => by rw [Vg]; decide
 | n + 1, h => by
  have ih := Zfh s a n (fun i h1 h2 => h i h1 oo)
  have hd := h (a + n) oo oo
  unfold Gm at hd
  rw [Bool.and_eq_true, decide_eq_true_eq, decide_eq_true_eq] at hd
  rw [Vg, Nat.pow_succ]; omega
structure NumOk (s : ByteArray) (k n a b : Nat) : Prop where
 at_ : a = Zm s k
 lt : a < b
 le : b ≤ s.size
 dig : ∀ i, a ≤ i → i < b → Gm (chA s i) = true
 lead : chA s a = 48 → b = a + 1
 val : n = Vg s a (b - a)
 end_ : b = Zds s a (s.size - a) a
theorem Gr {s : ByteArray} {k n a b : Nat} (hk : k ≤ s.size) (h : Vy s k = .ok (n, a, b)) : NumOk s k n a b := by
 unfold Vy at h
 simp only at h
 split at h
 · cases h
 ·
  rename_i hd
  simp only [Except.ok.injEq, Prod.mk.injEq] at h
  obtain ⟨h1, h2, h3⟩ := h
  have hle := Ja hk
  have hlt : Zm s k < s.size := by
   rcases Nat.lt_or_ge (Zm s k) s.size with h' | h'
   · exact h'
   · exfalso; apply hd; unfold Yu; rw [if_pos oo]; rfl
  have hdg : Gm (chA s (Zm s k)) = true := by
   have : Yu s k = chA s (Zm s k) := by unfold Yu; rw [if_neg oo]
   rw [this] at hd; simpa using hd
  subst h2
  have h0 := Zar (s := s) (a := Zm s k) (k := Zm s k) ⟨hlt, hdg, .inl rfl⟩
  have h4 := Zia s (Zm s k) (s.size - (Zm s k + 1)) (Zm s k + 1)
  refine ⟨rfl, oo, by rw [← h3]; exact Zw4 s _ _ _ hle, ?_, fun h48 => ?_, by rw [← h1, h3], h3.symm⟩
  · rw [← h3]; exact Zrr s (Zm s k) _ _ (fun i h1 h2 => by omega)
  ·
   have := Znd s (Zm s k) h48 (s.size - Zm s k) (Zm s k) oo
   omega
theorem Zgx (s : ByteArray) (k : Nat) : Vy s (Zm s k) = Vy s k := by
 unfold Vy; simp only [Kr, Zmm]
theorem NumOk.lt10 {s : ByteArray} {k n a b : Nat} (h : NumOk s k n a b) : n < 10 ^ (b - a) := by
 rw [h.val]; exact Zfh s a _ (fun i h1 h2 => h.dig i h1 oo)
theorem Zzo {m : Nat} (h : m ≤ 4096) : 10 ^ m < 4294967296 ^ 426 := Nat.lt_of_le_of_lt (Nat.pow_le_pow_right dd h) kD
theorem NumOk.big {s : ByteArray} {k n a b : Nat} (h : NumOk s k n a b) (hs : s.size ≤ 4096) : n < 4294967296 ^ 426 := by
 have := h.lt10; have := h.le; have := Zzo (show b - a ≤ 4096 by omega); omega
theorem Zes {n K : Nat} (h : n < 4294967296 ^ K) (hK : 2 ≤ K) : Jr ((n : Int) : Rat) ≤ K := by
 have h1 := Yx h
 have h2 : (wds 1).length ≤ 2 := Yp dd
 unfold Jr Kk
 rw [Rat.num_intCast, Rat.den_intCast, Int.natAbs_natCast]
 omega
theorem Zq4 {s : ByteArray} {k : Nat} (hk : k ≤ s.size) (h0 : Gm (Yu s k) = true) :
  Vy s k = .ok (Vg s (Zm s k) (Zds s (Zm s k) (s.size - Zm s k) (Zm s k) - Zm s k), Zm s k, Zds s (Zm s k) (s.size - Zm s k) (Zm s k)) ∧
  NumOk s k (Vg s (Zm s k) (Zds s (Zm s k) (s.size - Zm s k) (Zm s k) - Zm s k)) (Zm s k) (Zds s (Zm s k) (s.size - Zm s k) (Zm s k)) := by
 have h : Vy s k = .ok (Vg s (Zm s k) (Zds s (Zm s k) (s.size - Zm s k) (Zm s k) - Zm s k), Zm s k, Zds s (Zm s k) (s.size - Zm s k) (Zm s k)) := by
  unfold Vy; simp only [h0, Bool.true_eq_false, if_false]
 exact ⟨h, Gr hk h⟩
end
section
theorem Zfa (n : Nat) : n < 2 ^ Je n := by
 unfold Je; split
 · rename_i h; subst h; decide
 · rename_i h; exact Nat.lt_log2_self
theorem Zno {n : Nat} (h : n ≠ 0) : 1 ≤ Je n := by unfold Je; rw [if_neg h]; omega
def szT (t : Tm) : Nat := Je t.c.num.natAbs + Je t.c.den
theorem Zro : ∀ (p : List Tm) (n : Nat), p.foldl (fun n t => n + (Je t.c.num.natAbs + Je t.c.den)) n = n + (p.map szT).sum
 | [], n => by simp
 | t :: p, n => by rw [List.foldl_cons, Zro p, List.map_cons, List.sum_cons]; unfold szT; omega
theorem Gf (p : List Tm) : Qf p = (p.map szT).sum := by unfold Qf; rw [Zro, Nat.zero_add]
theorem Zl4 : ∀ p : List Tm, ∃ D N : Nat, 0 < D ∧ D + N ≤ 2 ^ (p.map szT).sum ∧ (∀ t ∈ p, ID D t.c) ∧ sab p * ((D : Int) : Rat) ≤ ((N : Int) : Rat)
 | [] => ⟨1, 0, oo, by simp, (fun _ h => nomatch h), by show (0 : Rat) * _ ≤ (0 : Rat); grind⟩
 | t :: p => by
  obtain ⟨D, N, h0, h1, h2, h3⟩ := Zl4 p
  refine ⟨t.c.den * D, t.c.num.natAbs * D + t.c.den * N, Nat.mul_pos t.c.den_pos h0, ?_, fun u hu => ?_, ?_⟩
  ·
   rw [List.map_cons, List.sum_cons, Nat.pow_add]
   have a1 := Zfa t.c.num.natAbs
   have a2 := Zfa t.c.den
   have a3 : t.c.den + t.c.num.natAbs ≤ 2 ^ szT t := by
    unfold szT; rw [Nat.pow_add]
    have hd := Zno t.c.den_nz
    have hd2 : 2 ≤ 2 ^ Je t.c.den := by
     have := Nat.pow_le_pow_right (show 0 < 2 by decide) hd; simpa using this
    rcases Nat.eq_zero_or_pos t.c.num.natAbs with e | e
    ·
     rw [e]; show _ + 0 ≤ 2 ^ Je 0 * _
     rw [show Je 0 = 0 from rfl, Nat.pow_zero, Nat.one_mul]; omega
    ·
     have hn := Zno (show t.c.num.natAbs ≠ 0 by omega)
     have hn2 : 2 ≤ 2 ^ Je t.c.num.natAbs := by
      have := Nat.pow_le_pow_right (show 0 < 2 by decide) hn; simpa using this
     generalize 2 ^ Je t.c.num.natAbs = X at *
     generalize 2 ^ Je t.c.den = Y at *
     have := Nat.mul_le_mul hn2 (Nat.le_refl Y)
     have := Nat.mul_le_mul (Nat.le_refl X) hd2
     have hxy : X + Y ≤ X * Y := by
      obtain ⟨X', rfl⟩ : ∃ X', X = X' + 2 := ⟨X - 2, oo⟩
      obtain ⟨Y', rfl⟩ : ∃ Y', Y = Y' + 2 := ⟨Y - 2, oo⟩
      rw [Nat.add_mul, Nat.mul_add]; omega
     omega
   have a4 := Nat.mul_le_mul a3 h1
   refine Nat.le_trans ?_ a4
   rw [Nat.add_mul, Nat.mul_add, Nat.mul_add]
   omega
  ·
   rcases List.mem_cons.1 hu with rfl | hu
   · exact (ID.self _).right D
   · exact (h2 u hu).left _
  ·
   rw [sab, Xj, Int.natCast_add, Rat.intCast_add, Xj, Xj]
   have e1 := Zsf t.c
   have e2 := Jl h3 (Jg t.c.den)
   have e3 := Jg D
   have e4 : (ab t.c + sab p) * (((t.c.den : Int) : Rat) * ((D : Int) : Rat)) = (ab t.c * ((t.c.den : Int) : Rat)) * ((D : Int) : Rat) + sab p * ((D : Int) : Rat) * ((t.c.den : Int) : Rat) := by grind
   rw [e4, e1]; grind
theorem Zzn {S : Nat} (h : S ≤ 16384) : 2 ^ S < 4294967296 ^ 513 := Nat.lt_of_le_of_lt (Nat.pow_le_pow_right dd h) kD
theorem Hb.of_size {p : List Tm} (h : Qf p ≤ 16384) : Hb 513 p := by
 obtain ⟨D, N, h0, h1, h2, h3⟩ := Zl4 p
 rw [Gf] at h
 have := Zzn h
 exact ⟨D, N, h0, oo, by omega, h2, h3⟩
structure Gd (p : List Tm) : Prop where
 pq : Pq 12 6400 p
 nrm : Nrm p
theorem Gd.nn {p : List Tm} (h : Gd p) : norm p = p := Zd1 h.nrm
theorem Gd.len {p : List Tm} (h : Gd p) : p.length ≤ 91 := by
 have := h.pq.nlen; rw [h.nn] at this; exact Nat.le_trans this dd
theorem Gd.fit {p : List Tm} (h : Gd p) (hs : Qf p ≤ 16384) : Pq 12 513 p := ⟨h.pq.deg, h.pq.len, Hb.of_size hs⟩
theorem Gd.of {d K : Nat} {l : List Tm} (h : Pq d K (norm l)) (hd : d ≤ 12) (hK : K ≤ 6400) : Gd (norm l) := ⟨h.mono hd hK, Yd l⟩
theorem Gd.ex {p : List Tm} (h : Gd p) (hs : Qf p ≤ 16384) {d : Nat} (hd : Yz p ≤ (d : Int)) : Pq d 513 p :=
 ⟨fun t ht => by have := Zlc h.nrm ht; omega, h.pq.len, Hb.of_size hs⟩
theorem Gd.x : Gd [⟨1, 0, 1⟩] := ⟨⟨fun t ht => by rw [List.mem_singleton] at ht; subst ht; decide, by decide, (Hb.of_KL (k := 2) (fun t ht => by rw [List.mem_singleton] at ht; subst ht; exact Zg1)).mono dd⟩, ⟨fun t ht => by rw [List.mem_singleton] at ht; subst ht; simp only; grind, List.pairwise_singleton _ _⟩⟩
theorem Gd.y : Gd [⟨0, 1, 1⟩] := ⟨⟨fun t ht => by rw [List.mem_singleton] at ht; subst ht; decide, by decide, (Hb.of_KL (k := 2) (fun t ht => by rw [List.mem_singleton] at ht; subst ht; exact Zg1)).mono dd⟩, ⟨fun t ht => by rw [List.mem_singleton] at ht; subst ht; simp only; grind, List.pairwise_singleton _ _⟩⟩
theorem one_Pq {x : Rat} {k : Nat} (h : Jr x ≤ k) : Pq 0 (k + 2) [⟨0, 0, x⟩] :=
 ⟨fun t ht => by rw [List.mem_singleton] at ht; subst ht; exact Nat.le_refl _, by simp, (Hb.of_KL (k := k) (fun t ht => by rw [List.mem_singleton] at ht; subst ht; exact h)).mono ss⟩
theorem Gd.num {s : ByteArray} {k n a b : Nat} (h : NumOk s k n a b) (hs : s.size ≤ 4096) : Gd (norm [⟨0, 0, ((n : Int) : Rat)⟩]) :=
 Gd.of ((one_Pq (Zes (h.big hs) dd)).nrm dd) dd dd
def mulOk (p q : List Tm) : Prop := ¬ (Yz p ≥ 0 ∧ Yz q ≥ 0 ∧ Yz p + Yz q > 12)
theorem Zlb {p : List Tm} (h : ¬ Yz p ≥ 0) : p = [] := by
 unfold Yz at h
 split at h
 · rename_i e; exact List.eq_nil_of_length_eq_zero e
 · omega
theorem mulOk.ds {p q : List Tm} (hp : Gd p) (hq : Gd q) (hsp : Qf p ≤ 16384) (hsq : Qf q ≤ 16384) (h : mulOk p q) : ∃ da db : Nat, da + db ≤ 12 ∧ Pq da 513 p ∧ Pq db 513 q := by
 unfold mulOk at h
 by_cases h1 : Yz p ≥ 0
 ·
  by_cases h2 : Yz q ≥ 0
  · exact ⟨(Yz p).toNat, (Yz q).toNat, oo, hp.ex hsp oo, hq.ex hsq oo⟩
  ·
   have := Zlb h2; subst this
   exact ⟨12, 0, by decide, hp.fit hsp, (Pq.nil 0).mono dd dd⟩
 ·
  have := Zlb h1; subst this
  exact ⟨0, 12, by decide, (Pq.nil 0).mono dd dd, hq.fit hsq⟩
theorem Gd.mul {p q : List Tm} (hp : Gd p) (hq : Gd q) (hs : Qf p + Qf q ≤ 16384) (h : mulOk p q) : Gd (norm (Vh p q)) := by
 obtain ⟨da, db, h1, h2, h3⟩ := mulOk.ds hp hq oo oo h
 exact Gd.of (h2.mul h3 h1) h1 dd
theorem powOk.ds {p : List Tm} {n : Nat} (hp : Gd p) (hn : n ≤ 12) (hs : n * Qf p ≤ 16384) (h : ¬ (n : Int) * Yz p > 12) : n = 0 ∨ ∃ d : Nat, d ≤ 12 ∧ n * d ≤ 12 ∧ Pq d 513 p := by
 rcases Nat.eq_zero_or_pos n with e | e
 · exact .inl e
 ·
  have hsp : Qf p ≤ 16384 := by have := Nat.mul_le_mul_right (Qf p) (show 1 ≤ n by omega); omega
  refine .inr ?_
  by_cases h1 : Yz p ≥ 0
  ·
   have h12 := Zbd hp.pq.deg
   refine ⟨(Yz p).toNat, oo, ?_, hp.ex hsp oo⟩
   have : ((n * (Yz p).toNat : Nat) : Int) = (n : Int) * Yz p := by rw [Int.natCast_mul, Int.toNat_of_nonneg h1]
   omega
  ·
   have := Zlb h1; subst this
   exact ⟨0, by decide, oo, (Pq.nil 0).mono dd dd⟩
theorem Gd.pow {p : List Tm} {n : Nat} (hp : Gd p) (hn : n ≤ 12) (hs : n * Qf p ≤ 16384) (h : ¬ (n : Int) * Yz p > 12) : Gd (norm (Zea p n)) := by
 rcases powOk.ds hp hn hs h with rfl | ⟨d, h1, h2, h3⟩
 · rw [Zea, Zkr]; exact ⟨Pq.one.mono dd dd, by rw [← Zkr]; exact Yd _⟩
 · exact Gd.of (h3.pow n h2) h2 (by have := Nat.mul_le_mul_right 513 hn; omega)
theorem Zmt {n K : Nat} (h : n < 4294967296 ^ K) (hK : 2 ≤ K) : Jr (1 / ((n : Int) : Rat)) ≤ K + 2 := by
 have h1 := Zrh 1 ((n : Int) : Rat)
 have h2 := Zes h hK
 have h3 := Zg1
 omega
theorem Gd.quo {p : List Tm} {n : Nat} (hp : Gd p) (hs : Qf p ≤ 16384) (hn : n < 4294967296 ^ 426) : Gd (norm (Qj (1 / ((n : Int) : Rat)) p)) :=
 Gd.of ((hp.fit hs).scale (Zmt hn dd) dd) dd dd
theorem Gd.add {p q : List Tm} (hp : Gd p) (hq : Gd q) (hs : Qf p + Qf q ≤ 16384) : Gd (norm (p ++ q)) :=
 Gd.of ((hp.fit oo).add (hq.fit oo) dd dd) dd dd
theorem Gd.sub {p q : List Tm} (hp : Gd p) (hq : Gd q) (hs : Qf p + Qf q ≤ 16384) : Gd (norm (p ++ Qj ((-1 : Int) : Rat) q)) := by
 have h1 := Hb.scale (c := ((-1 : Int) : Rat)) (k := 2) (hq.fit oo).hgt (Jp (-1) dd dd)
 refine Gd.of (d := 12) (K := 1030) (Pq.of_norm (Zis (hp.fit oo).deg (Zir _ hq.pq.deg)) (((hp.fit oo).hgt.append h1).mono dd) dd) dd dd
theorem Hb.neg {K : Nat} {p : List Tm} (h : Hb K p) : Hb K (Qj ((-1 : Int) : Rat) p) := by
 obtain ⟨D, N, h0, h1, h2, h3, h4⟩ := h
 refine ⟨D, N, h0, h1, h2, fun t ht => ?_, ?_⟩
 ·
  unfold Qj at ht
  obtain ⟨u, hu, rfl⟩ := List.mem_map.1 ht
  have := (ID.int (-1)).mul (h3 u hu)
  rwa [Nat.one_mul] at this
 · rw [Zhn, show ab ((-1 : Int) : Rat) = 1 from by rw [Qcf]; rfl]; grind
theorem Gd.neg {p : List Tm} (hp : Gd p) : Gd (norm (Qj ((-1 : Int) : Rat) p)) :=
 Gd.of (Pq.of_norm (Zir _ hp.pq.deg) hp.pq.hgt.neg dd) dd dd
def InsG (s : ByteArray) (inside : Ins) : Prop := ∀ f, inside = some f → ∀ k p k', k ≤ s.size → f k = .ok (p, k') → Gd p ∧ k ≤ k' ∧ k' ≤ s.size
section
variable {s : ByteArray} {inside : Ins} {k k' : Nat} {p : List Tm}
theorem Zjy (hs : s.size ≤ 4096) (hi : InsG s inside) (hk : k ≤ s.size) (h : Vq s inside k = .ok (p, k')) : Gd p ∧ k < k' ∧ k' ≤ s.size := by
 have hb := Xd s k
 unfold Vq at h
 simp only [Gs] at h
 split at h
 ·
  rename_i ht
  have := Zz hk ht
  simp only [Except.ok.injEq, Prod.mk.injEq] at h
  obtain ⟨rfl, rfl⟩ := h
  exact ⟨Gd.x, oo, oo⟩
 split at h
 ·
  rename_i ht
  have := Zz hk ht
  simp only [Except.ok.injEq, Prod.mk.injEq] at h
  obtain ⟨rfl, rfl⟩ := h
  exact ⟨Gd.y, oo, oo⟩
 split at h
 ·
  rename_i ht
  have := Zz hk ht
  split at h
  · cases h
  ·
   rename_i f
   split at h
   · cases h
   ·
    rename_i q k2 hf
    obtain ⟨g1, g2, g3⟩ := hi f rfl _ _ _ oo hf
    split at h
    ·
     rename_i ht2
     have h3 := Zz g3 ht2
     have h4 := Xd s k2
     simp only [Except.ok.injEq, Prod.mk.injEq] at h
     obtain ⟨rfl, rfl⟩ := h
     exact ⟨g1, oo, oo⟩
    · cases h
 ·
  split at h
  · cases h
  ·
   rename_i n a b hn
   have hN := Gr hk hn
   simp only [Except.ok.injEq, Prod.mk.injEq] at h
   obtain ⟨rfl, rfl⟩ := h
   have h1 := hN.at_
   have h2 := hN.lt
   exact ⟨Gd.num hN hs, oo, hN.le⟩
theorem Zbu (hs : s.size ≤ 4096) (hi : InsG s inside) (hk : k ≤ s.size) (h : Ye s inside k = .ok (p, k')) : Gd p ∧ k < k' ∧ k' ≤ s.size := by
 unfold Ye at h
 simp only [Gs] at h
 split at h
 · cases h
 ·
  rename_i q k2 hb
  obtain ⟨g1, g2, g3⟩ := Zjy hs hi hk hb
  have h4 := Xd s k2
  split at h
  ·
   rename_i ht
   have h3 := Zz g3 ht
   split at h
   · cases h
   ·
    rename_i n a b hn
    have hN := Gr (k := Zm s k2 + 1) oo hn
    have h1 := hN.at_
    have h2 := hN.lt
    have h5 := Xd s (Zm s k2 + 1)
    split at h
    · cases h
    ·
     split at h
     · cases h
     ·
      rename_i h6 h7
      simp only [Except.ok.injEq, Prod.mk.injEq] at h
      obtain ⟨rfl, rfl⟩ := h
      exact ⟨g1.pow oo oo oo, oo, hN.le⟩
  ·
   simp only [Except.ok.injEq, Prod.mk.injEq] at h
   obtain ⟨rfl, rfl⟩ := h
   exact ⟨g1, oo, Ja g3⟩
theorem Zfm (hs : s.size ≤ 4096) (hi : InsG s inside) : ∀ (f : Nat) {q : List Tm} {k : Nat}, Gd q → k ≤ s.size → Vx s inside f q k = .ok (p, k') → Gd p ∧ k ≤ k' ∧ k' ≤ s.size
 | 0, q, k, hq, hk, h => by
  simp only [Vx, Except.ok.injEq, Prod.mk.injEq] at h
  obtain ⟨rfl, rfl⟩ := h
  exact ⟨hq, Nat.le_refl _, hk⟩
 | f + 1, q, k, hq, hk, h => by
  have h4 := Xd s k
  rw [Vx] at h
  simp only [Gs] at h
  split at h
  ·
   rename_i ht
   have h3 := Zz hk ht
   split at h
   · cases h
   ·
    rename_i q2 b hf
    obtain ⟨g1, g2, g3⟩ := Zbu hs hi oo hf
    split at h
    · cases h
    ·
     split at h
     · cases h
     ·
      rename_i h6 h7
      obtain ⟨e1, e2, e3⟩ := Zfm hs hi f (hq.mul g1 oo h6) g3 h
      exact ⟨e1, oo, e3⟩
  split at h
  ·
   rename_i ht
   have h3 := Zz hk ht
   split at h
   · cases h
   ·
    rename_i n a b hn
    have hN := Gr (k := Zm s k + 1) oo hn
    have h1 := hN.at_
    have h2 := hN.lt
    have h5 := Xd s (Zm s k + 1)
    split at h
    · cases h
    ·
     split at h
     · cases h
     ·
      obtain ⟨e1, e2, e3⟩ := Zfm hs hi f (hq.quo oo (hN.big hs)) hN.le h
      exact ⟨e1, oo, e3⟩
  ·
   simp only [Except.ok.injEq, Prod.mk.injEq] at h
   obtain ⟨rfl, rfl⟩ := h
   exact ⟨hq, h4, Ja hk⟩
theorem Vt (hs : s.size ≤ 4096) (hi : InsG s inside) (hk : k ≤ s.size) (h : Ke s inside k = .ok (p, k')) : Gd p ∧ k < k' ∧ k' ≤ s.size := by
 unfold Ke at h
 split at h
 · cases h
 ·
  rename_i q b hf
  obtain ⟨g1, g2, g3⟩ := Zbu hs hi hk hf
  obtain ⟨e1, e2, e3⟩ := Zfm hs hi _ g1 g3 h
  exact ⟨e1, oo, e3⟩
theorem Zl1 (hs : s.size ≤ 4096) (hi : InsG s inside) : ∀ (f : Nat) {q : List Tm} {k : Nat}, Gd q → k ≤ s.size → Ziv s inside f q k = .ok (p, k') → Gd p ∧ k ≤ k' ∧ k' ≤ s.size
 | 0, q, k, hq, hk, h => by
  simp only [Ziv, Except.ok.injEq, Prod.mk.injEq] at h
  obtain ⟨rfl, rfl⟩ := h
  exact ⟨hq, Nat.le_refl _, hk⟩
 | f + 1, q, k, hq, hk, h => by
  have h4 := Xd s k
  rw [Ziv] at h
  simp only [Gs] at h
  split at h
  ·
   rename_i ht
   have h3 : Zm s k < s.size := ht.elim (Zz hk) (Zz hk)
   split at h
   · cases h
   ·
    rename_i q2 b hf
    obtain ⟨g1, g2, g3⟩ := Vt hs hi oo hf
    split at h
    · cases h
    ·
     rename_i h7
     have hg : Gd (if Zn s 43 k = true then norm (q ++ q2) else norm (q ++ Qj ((-1 : Int) : Rat) q2)) := by
      split
      · exact hq.add g1 oo
      · exact hq.sub g1 oo
     obtain ⟨e1, e2, e3⟩ := Zl1 hs hi f hg g3 h
     exact ⟨e1, oo, e3⟩
  ·
   simp only [Except.ok.injEq, Prod.mk.injEq] at h
   obtain ⟨rfl, rfl⟩ := h
   exact ⟨hq, h4, Ja hk⟩
theorem Zl2 (hs : s.size ≤ 4096) (hi : InsG s inside) (hk : k ≤ s.size) (h : Zoj s inside k = .ok (p, k')) : Gd p ∧ k < k' ∧ k' ≤ s.size := by
 have h4 := Xd s k
 have h5 := Ja hk
 unfold Zoj at h
 simp only [Gs] at h
 split at h
 · cases h
 ·
  rename_i q b hf
  have hk2 : (if Zn s 45 k = true then Zm s k + 1 else Zm s k) ≤ s.size ∧ k ≤ (if Zn s 45 k = true then Zm s k + 1 else Zm s k) := by
   split
   · rename_i ht; have := Zz hk ht; omega
   · omega
  obtain ⟨g1, g2, g3⟩ := Vt hs hi hk2.1 hf
  have hg : Gd (if Zn s 45 k = true then norm (Qj ((-1 : Int) : Rat) q) else q) := by
   split
   · exact g1.neg
   · exact g1
  obtain ⟨e1, e2, e3⟩ := Zl1 hs hi _ hg g3 h
  exact ⟨e1, oo, e3⟩
end
theorem InsG.none (s : ByteArray) : InsG s none := fun _ h => nomatch h
theorem Zcu {s : ByteArray} (hs : s.size ≤ 4096) : ∀ (n : Nat) {k k' : Nat} {p : List Tm}, k ≤ s.size → sumE s n k = .ok (p, k') → Gd p ∧ k < k' ∧ k' ≤ s.size
 | 0, k, k', p, hk, h => Zl2 hs (InsG.none s) hk h
 | n + 1, k, k', p, hk, h => Zl2 hs (fun f hf k p k' hk h => by
   cases hf
   obtain ⟨a, b, c⟩ := Zcu hs n hk h
   exact ⟨a, oo, c⟩) hk h
end
section
theorem Qey (x : Int) (w : World) : (Go.convert 5 45 (.int .u8 x)).run Tryz.prog w = .ok (.int .u64 (IntKind.u64.wrap x)) w := by
 simp [go_sem]
theorem Qay (x : Int) (h0 : IntKind.u64.wrap x = x) (w : World) : (Go.convert 5 45 (.int .u8 x)).run Tryz.prog w = .ok (.int .u64 x) w := by
 rw [Qey, h0]
theorem Zw9 (x : Int) (h0 : IntKind.u32.wrap x = x) (w : World) : (Go.convert 45 54 (.int .u64 x)).run Tryz.prog w = .ok (.int .u32 x) w := by
 rw [Xi, h0]
theorem Ztx (x0 : Int) (w : World) : (Instr.buildSlice 151 1 [(0, .int .u32 x0)].toArray).run Tryz.prog w = .ok (.slice (some ⟨w.heap.size, 0, none⟩) 1 1) (w.alloc (.cells #[.int .u32 x0] 54 (0, 0))) := by
 simp [go_sem]
theorem Zr8 : ∀ n : Nat, n ≠ 0 → 32 * ((wds n).length - 1) + Zba ((wds n).getD ((wds n).length - 1) 0) = Je n := by
 intro n
 induction n using Nat.strongRecOn with
 | _ n ih =>
  intro hn
  by_cases h : n < 4294967296
  ·
   rw [Zae hn, show n / 4294967296 = 0 by omega, Yw, show n % 4294967296 = n by omega]
   show 32 * 0 + Zba n = Je n
   unfold Zba Je; omega
  ·
   have h1 := ih (n / 4294967296) oo oo
   have h2 := Zb2 (show n / 4294967296 ≠ 0 by omega)
   rw [Zae hn, List.length_cons, show (wds (n / 4294967296)).length + 1 - 1 = (wds (n / 4294967296)).length - 1 + 1 by omega]
   rw [show ((n % 4294967296) :: wds (n / 4294967296)).getD ((wds (n / 4294967296)).length - 1 + 1) 0 = (wds (n / 4294967296)).getD ((wds (n / 4294967296)).length - 1) 0 from rfl]
   have h3 := Zfy (n := n) (k := 32) (by show 4294967296 ≤ n; omega)
   have h4 : Zba n = Je n := rfl
   have h5 : Zba (n / 2 ^ 32) = Je (n / 4294967296) := rfl
   omega
theorem Gy (n : Nat) : Je n ≤ 32 * (wds n).length := by
 by_cases h : n = 0
 · subst h; exact Nat.zero_le _
 ·
  rw [← Zr8 n h]
  have h1 := Zb2 h
  have h2 := (Wd.wds n).getD ((wds n).length - 1)
  have h3 := Zbr (n := (wds n).getD ((wds n).length - 1) 0) (k := 32) h2
  omega
theorem Zyw (n : Nat) (hn : (wds n).length ≤ 10000000000) : Xl Tryz.prog 114 [Xk n] (.int .i64 ((Je n : Nat) : Int)) := by
 refine fn_intro func114 rfl ntmps114 nb ?_
 intro S w0 a hS h
 refine gC h (zS (zx rfl fun b1 => za rfl (zn (zS (zd rfl mr isAgg47 sizeOf47 Zh ?_)))))
 refine zf [_] rfl call92 (Gu n oo) ?_; rintro v5 Ψ5 ⟨ad5, c5, rfl, hc5, rfl⟩
 refine za rfl (zn (zs (zS (zm rfl (zp (.builtin [_] rfl (Zk _ _ _)) (zp (.eql rfl rfl) (zn ?_))))))); intro a w h
 refine cW ?_
 refine Zb h rfl (fun hc8 => ?_) (fun hc8 => ?_)
 ·
  skip
  have h0 : (wds n).length = 0 := by have := eq_of_beq hc8; omega
  refine gC h (zS (za rfl (zn (zt ?_)))); clear h; intro a w h
  refine Jk h (Zd h rfl (.tmp rfl)) ?_
  have e0 : n = 0 := Decidable.of_not_not (fun hn => by have := Zb2 hn; omega)
  subst e0; rfl
 ·
  skip
  have h0 : (wds n).length ≠ 0 := fun e => by rw [e] at hc8; exact absurd hc8 dd
  obtain ⟨B5, O5, rfl⟩ := h.row_addr (ad := ad5) (M := Jo (wds n)) List.mem_cons_self (by intro e; apply h0; have := congrArg List.length e; simpa [Jo] using this)
  have hw := (Wd.wds n).getD ((wds n).length - 1)
  refine gC h (zk (zS (zm rfl (zp (.builtin [_] rfl (Zk _ _ _)) (zp (.pO (((wds n).length) - 1) (.sub rfl rfl)) (zp (.pN (32 * (((wds n).length) - 1)) (.mul rfl rfl)) (zm rfl (zm rfl (zp (.builtin [_] rfl (Zk _ _ _)) (zp (.pO (((wds n).length) - 1) (.sub rfl rfl)) (zp (.indexAddr rfl rfl (Qr _ _ _ _ _ oo)) (zD rfl mm (by simp; omega) isAgg54 sizeOf54 (Zv 0 oo) (.inr rfl) ?_))))))))))))
  refine zv [_] rfl call164 (Zys _ hw) ?_
  have hle := Zbr (n := (wds n).getD ((wds n).length - 1) 0) (k := 32) hw
  refine zp (.pN ((32 * (((wds n).length) - 1)) + (Zba ((wds n).getD ((wds n).length - 1) 0))) (.add rfl rfl)) (za rfl (zn (zt ?_))); intro a w h
  refine Jk h (Zd h rfl (.tmp rfl)) ?_
  exact congrArg (fun k : Nat => Value.int .i64 (k : Int)) (Zr8 n (fun e => h0 (by rw [e, Yw]; rfl)))
theorem Qcx (x : Rat) : Xl Tryz.prog 116 [Vv x] (encZ x.num) := by
 refine fn_intro func116 rfl ntmps116 nb ?_
 intro S w0 a hS h
 refine gC h (zS (zx rfl fun b1 => zz zeroZ fun b2 => zn (zS (zp (.fA rfl Ym) (zd rfl mr isAgg51 sizeOf51 Xg ?_)))))
 refine zt' rfl rfl Qw uu sizeOf51 rfl nb rfl ?_; intro a w h
 refine wpList_nil (wp_ret ?_)
 refine Jk h (Zd h rfl (.cell rfl mr isAgg51 sizeOf51 Zs)) ?_
 rfl
theorem Qcy (x : Rat) (hx : (wds x.den).length ≤ 400000000000) : Xl Tryz.prog 115 [Vv x] (Xk x.den) := by
 refine fn_intro func115 rfl ntmps115 nb ?_
 intro S w0 a hS h
 refine gC h (zS (zx rfl fun b1 => zz Zy2 fun b2 => zn (zS (zd rfl mr isAgg53 sizeOf53 Zx ?_))))
 refine zv [_] rfl call57 (Ziz x hx) (zt' rfl rfl Zl uu sizeOf47 rfl nb rfl ?_); intro a w h
 refine wpList_nil (wp_ret ?_)
 refine Jk h (Zd h rfl (.cell rfl mr isAgg47 sizeOf47 Zh)) ?_
 rfl
theorem C_U64 (n : Nat) : Xl Tryz.prog 160 [Xk n] (.tuple #[.int .u64 (Gw n), .bool (decide (n < 18446744073709551616))]) := by
 refine fn_intro func160 rfl ntmps160 nb ?_
 intro S w0 a hS h
 refine gC h (zS (zx rfl fun b1 => za rfl (za rfl (zn (zs (yD Za [0, 1, 2, 3, 4, 5, 6] (Zf kk) (yp rfl (.fA rfl Yf) (yd rfl rfl mr isAgg45 sizeOf45 Jn ?_)))))))); clear h
 refine yp rfl (.fA rfl Yn) (yd rfl rfl mr isAgg9 sizeOf9 Jy ?_)
 refine yp rfl (.binOp rfl rfl (fun _ => Jv _ _ _ _ _)) (yp rfl (.assign rfl) (yp rfl (.assign rfl) (yn (zt ?_)))); intro a w h
 refine Jk h (Ql h rfl (.tmp rfl) (.tmp rfl)) ?_
 refine congrArg (fun c => Value.tuple #[Value.int .u64 (Gw n), Value.bool c]) ?_
 by_cases hs : n < 18446744073709551616
 · rw [decide_eq_true hs, Qh.2 hs]; rfl
 ·
  rw [decide_eq_false hs]
  refine Bool.eq_false_iff.2 (fun e => hs (Qh.1 ?_))
  simpa using e
theorem Qf5 (z : Int) (d : Nat) (hd : d ≠ 0) (hz : Kk z ≤ 400000000000) (hdl : (wds d).length ≤ 400000000000) : Xl Tryz.prog 163 [encZ z, Xk d] (.tuple #[Vv (mkRat z d), .int .i64 0]) := by
 refine fn_intro func163 rfl ntmps163 nb ?_
 intro S w0 a hS h
 refine gC h (zS (zx rfl fun b2 => zx rfl fun b3 => zz Zg9 fun b4 => za rfl (zn (zs (zS (zd rfl mr isAgg47 sizeOf47 Zh ?_))))))
 refine zp (Pure1.cast (v' := Xk 0) (.build [] rfl (Zip)) (by rfl)) (zp (.binOp rfl rfl (fun _ => Zkj _ _ d 0 _)) (zn ?_)); intro a w h
 refine cW ?_
 refine Zb h rfl (fun hc8 => (absurd (of_decide_eq_true hc8) hd)) (fun hc8 => ?_)
 refine gC h (zk (zS (zd rfl mr isAgg51 sizeOf51 Zs ?_)))
 refine zd rfl mr isAgg47 sizeOf47 Zh ?_
 refine zv [_, _] rfl call84 (Zfd z d hd hz hdl) (zt' rfl rfl Xa uu sizeOf53 rfl nb rfl ?_)
 refine za rfl (zn (zt ?_)); intro a w h
 refine Jk h (Ql h rfl (.cell rfl mr isAgg53 sizeOf53 Zx) (.tmp rfl)) ?_
 rfl
theorem Qbn (n : Nat) (hn : (wds n).length ≤ 400000000000) : Xl Tryz.prog 163 [encZ (sgZ false n), Xk 1] (.tuple #[Vv ((n : Int) : Rat), .int .i64 0]) := by
 have h := Qf5 (sgZ false n) 1 dd (by unfold Kk; rw [Za7]; exact hn) (Nat.le_trans (Yp dd) dd)
 have e : mkRat (sgZ false n) 1 = ((n : Int) : Rat) := by rw [Rat.mkRat_one]; rfl
 rw [e] at h; exact h
theorem Zj9 (s : ByteArray) (a j : Nat) : ∀ m, Vg s a (j + m) = 10 ^ m * Vg s a j + Vg s (a + j) m
 | 0 => by rw [Nat.add_zero, Vg, Nat.pow_zero]; omega
 | m + 1 => by
  have ih := Zj9 s a j m
  rw [← Nat.add_assoc, Vg, Vg, ih, Nat.pow_succ, Nat.mul_add, ← Nat.mul_assoc, Nat.mul_comm 10 (10 ^ m), Nat.add_assoc a j m]; omega
theorem Zqb (l : List Nat) {i : Nat} (h : i < l.length) : l.take (i + 1) = l.take i ++ [l.getD i 0] := by
 rw [List.take_add_one, List.getElem?_eq_getElem h]
 simp [List.getD, List.getElem?_eq_getElem h]
theorem Ztv {l Z : List Nat} {i pt sc p0 : Nat} (hi : i < l.length) (hl : Z.length = l.length) (hd : Z.drop i = l.drop i) (hv : Zr (Z.take i) + 4294967296 ^ i * pt = sc * Zr (l.take i) + p0) :
  (Z.set i ((pt + Z.getD i 0 * sc) % 4294967296)).drop (i + 1) = l.drop (i + 1) ∧ Zr ((Z.set i ((pt + Z.getD i 0 * sc) % 4294967296)).take (i + 1)) + 4294967296 ^ (i + 1) * ((pt + Z.getD i 0 * sc) / 4294967296) = sc * Zr (l.take (i + 1)) + p0 := by
 have hg : Z.getD i 0 = l.getD i 0 := Zc3 hd (Nat.le_refl i)
 refine ⟨Ze0 hd, ?_⟩
 have e1 : (Z.set i ((pt + Z.getD i 0 * sc) % 4294967296)).take (i + 1) = Z.take i ++ [(pt + Z.getD i 0 * sc) % 4294967296] := by
  rw [Zqb _ (by rw [List.length_set]; omega), List.take_set_of_le (Nat.le_refl i)]
  congr 2
  simp [List.getD, hl, hi]
 rw [e1, Zqb l hi, Jf, Jf, hg, List.length_take, List.length_take, Nat.min_eq_left oo, Nat.min_eq_left oo]
 simp only [Zr]
 have h2 := Nat.mod_add_div (pt + l.getD i 0 * sc) 4294967296
 generalize (pt + l.getD i 0 * sc) % 4294967296 = r at *
 generalize (pt + l.getD i 0 * sc) / 4294967296 = q at *
 have h3 : 4294967296 ^ (i + 1) = 4294967296 ^ i * 4294967296 := Nat.pow_succ _ _
 rw [h3]
 generalize 4294967296 ^ i = P at *
 have h4 : P * (r + 4294967296 * q) = P * (pt + l.getD i 0 * sc) := by rw [h2]
 grind
theorem Qa6 {x pt sc : Nat} (hx : x < 4294967296) (hp : pt ≤ 1000000000) (hs : sc ≤ 1000000000) : x * sc ≤ 4294967295000000000 ∧ (pt + x * sc) / 4294967296 ≤ 1000000000 := by
 have := Nat.mul_le_mul (show x ≤ 4294967295 by omega) hs
 omega
set_option maxHeartbeats 1000000 in
theorem Qf8 (s : ByteArray) (h0 : 0 < s.size) (hs : s.size ≤ 4096) (hd : ∀ i, i < s.size → Gm (chA s i) = true) (hl : chA s 0 = 48 → s.size = 1) : Xl Tryz.prog 162 [.string s] (.tuple #[Xk (Vg s 0 s.size), .int .i64 0]) := by
 refine fn_intro func162 rfl ntmps162 nb ?_
 intro S w0 a hS h
 refine gC h (zS (zz Zy2 fun b2 => za rfl (zn ?_))); clear h; intro a w h
 refine cW ?_
 refine Xu (fun a w => St 99 S w0 [(0, .string s), (2, pB b2)] [(b2, .cells (Xk 0).cells 47 (0, 0))] [] a w) ?_ ?_
 ·
  skip
  refine gC h (zb (zS (zm rfl (zp (.builtin [_] rfl (Zt _)) (zp (.gtr rfl rfl) (za rfl (zn ?_))))))); clear h; intro a w h
  refine cW ?_
  refine Zb h rfl (fun hc10 => (by exfalso; have := of_decide_eq_true hc10; omega)) (fun hc10 => ?_)
  refine gC h (zS (zm rfl (zp (.binOp rfl rfl (fun _ => Jv _ _ _ _ _)) ?_))); clear h; intro a w h
  refine Zg h (fun hc17 h => (by exfalso; have h9 : s = ⟨#[]⟩ := (by simpa using hc17); rw [h9] at h0; exact absurd h0 dd)) (fun hc17 h => ?_)
  refine gL h (zm rfl (zq 18 rfl rfl (.move rfl) (zq 18 rfl rfl (Pure1.cast (v' := .int .u8 ((chA s 0 : Nat) : Int)) (.index rfl rfl (fun _ => Zu runUnderlying9 s 0 oo)) (by rfl)) (zq 18 rfl rfl (.eql rfl rfl) ?_)))); clear h; intro a w h
  refine Zg h (fun hc21 h => ?_) (fun hc21 h => ?_)
  ·
   skip
   refine gL h (zq 18 rfl rfl (.move rfl) (zq 22 rfl rfl (.move rfl) (zq 22 rfl rfl (.builtin [_] rfl (Zt _)) (zq 22 rfl rfl (.gtr rfl rfl) ?_)))); clear h; intro a w h
   refine Zg h (fun hc25 h => (by exfalso; have h48 : chA s 0 = 48 := (by have := eq_of_beq hc21; omega); have := hl h48; have := of_decide_eq_true hc25; omega)) (fun hc25 h => ?_)
   refine gL h (zq 18 rfl rfl (.pickT rfl rfl) (zp (.pickF rfl rfl) (za rfl (zn ?_)))); clear h; intro a w h
   refine cW ?_
   refine Ze h rfl ?_
   refine wp_skip ?_
   exact h.sub sA
  ·
   skip
   refine gL h (zq 18 rfl rfl (.move rfl) (zo 22 rfl rfl rfl (zo 22 rfl rfl rfl (zo 22 rfl rfl rfl (zq 18 rfl rfl (.pickF rfl rfl) (zp (.pickF rfl rfl) (za rfl (zn ?_)))))))); clear h; intro a w h
   refine cW ?_
   refine Ze h rfl ?_
   refine wp_skip ?_
   exact h.sub sA
 ·
  clear h
  intro a w h
  refine gC h (zS (za rfl (zn (zs (zS (za rfl (zn (zb ?_)))))))); clear h; intro a w h
  refine Zi (fun (j : Nat) a w => ∃ (l : List Nat) (ad : Option Addr) (c : Nat) (o : List (Nat × Obj)), (j ≤ s.size ∧ Wd l ∧ l.length ≤ j ∧ Zr l = Vg s 0 j ∧ GrowO 1 54 (.slice ad (l).length c) (l).length (List.map (fun x : Nat => Value.int .u32 (x : Int)) (l)) o) ∧ St 99 S w0 [(0, .string s), (2, pB b2), (4, (.slice ad (l).length c)), (5, nI j)] (o ++ ((b2, bV (Xk (0)) 47) :: [])) [] a w) (fun j => s.size - j) (0) (⟨[], none, 0, [], ⟨oo, (fun _ h => nomatch h), Nat.le_refl _, rfl, GrowO.nil _ _⟩, by exact h.sub sA⟩) ?_; clear h
  rintro j a w ⟨l, ad, c, o, ⟨hj, hW, hll, hval, hG⟩, h⟩
  refine gC h (zs (zS (zm rfl (zm rfl (zp (.builtin [_] rfl (Zt _)) (zp (.lss rfl rfl) (zn ?_))))))); clear h; intro a w h
  refine cW ?_
  refine Zb h rfl (fun hc32 => ?_) (fun hc32 => ?_)
  ·
   skip
   have hlt : j < s.size := dT hc32
   obtain ⟨cnt, hcnt⟩ : ∃ cnt, cnt = (s.size - j - 1) % 9 + 1 := ⟨_, rfl⟩
   have hcj : j + cnt ≤ s.size := by have := Nat.mod_le (s.size - j - 1) 9; omega
   have hc9 : cnt ≤ 9 := oo
   refine gC h (zk (zb (zS (zm rfl (zm rfl (zp (.builtin [_] rfl (Zt _)) (zm rfl (zp (.pO (s.size - j) (.sub rfl rfl)) (zp (.pO ((s.size - j) - 1) (.sub rfl rfl)) (zp (Pure1.cast (v' := .int .i64 (((s.size - j - 1) % 9 : Nat) : Int)) (.binOp rfl rfl (fun _ => Zai _ _ _ _ _ dd)) (by exact congrArg (Value.int .i64) (Kd _ 9))) (zp (.pN (j + ((s.size - j - 1) % 9)) (.add rfl rfl)) (zp (.pO (j + cnt) (Pure1.cast (v' := (.int .i64 (((j + ((s.size - j - 1) % 9)) + 1 : Nat) : Int))) (.add rfl rfl) (by show Value.int _ _ = Value.int _ _; congr 1))) (za rfl (zn (zS (za rfl (za rfl (zn (zs (zb ?_)))))))))))))))))))); clear h; intro a w h
   refine Zi (fun (m : Nat) a w => m ≤ cnt ∧ St 99 S w0 [(0, .string s), (2, pB b2), (4, (.slice ad (l).length c)), (5, nI (j + m)), (6, nI (j + cnt)), (7, .int .u64 (((Vg s j m : Nat) : Int))), (8, .int .u64 (((10 ^ m : Nat) : Int)))] (o ++ ((b2, bV (Xk (0)) 47) :: [])) [] a w) (fun m => cnt - m) (0) (⟨Nat.zero_le _, by exact h.sub sA⟩) ?_; clear h
   rintro m a w ⟨hmc, h⟩
   refine gC h (zs (zS (zm rfl (zm rfl (zp (.lss rfl rfl) (zn ?_)))))); clear h; intro a w h
   refine cW ?_
   refine Zb h rfl (fun hc44 => ?_) (fun hc44 => ?_)
   ·
    skip
    have hm : m < cnt := dT hc44
    have hdg := hd (j + m) oo
    unfold Gm at hdg
    rw [Bool.and_eq_true, decide_eq_true_eq, decide_eq_true_eq] at hdg
    have hv := Zfh s j m (fun i h1 h2 => hd i oo)
    have hp : 10 ^ m ≤ 100000000 := Nat.le_trans (Nat.pow_le_pow_right (n := 10) dd (show m ≤ 8 by omega)) dd
    refine gC h (zk (zs (zb (zs (zS (zm rfl (zm rfl (zp (Pure1.cast (v' := .int .u8 ((chA s (j + m) : Nat) : Int)) (.index rfl rfl (fun _ => Zu runUnderlying9 _ _ oo)) (by rfl)) (zp (.lss rfl rfl) ?_))))))))); clear h; intro a w h
    refine Zg h (fun hc50 h => (by exfalso; have := of_decide_eq_true hc50; omega)) (fun hc50 h => ?_)
    refine gL h (zm rfl (zq 51 rfl rfl (.move rfl) (zq 51 rfl rfl (.move rfl) (zq 51 rfl rfl (Pure1.cast (v' := .int .u8 ((chA s (j + m) : Nat) : Int)) (.index rfl rfl (fun _ => Zu runUnderlying9 _ _ oo)) (by rfl)) (zq 51 rfl rfl (.gtr rfl rfl) ?_))))); clear h; intro a w h
    refine Zg h (fun hc55 h => (by exfalso; have := of_decide_eq_true hc55; omega)) (fun hc55 h => ?_)
    refine gL h (zp (.pickF rfl rfl) (zn ?_)); clear h; intro a w h
    refine cW ?_
    refine Ze h rfl ?_
    refine gC h (zk (zr (zm rfl (zp (.binOp rfl rfl (fun _ => Zgr _ _ _ _ _ (wrap_u64 _ oo oo))) (zm rfl (zm rfl (zp (Pure1.cast (v' := .int .u8 ((chA s (j + m) : Nat) : Int)) (.index rfl rfl (fun _ => Zu runUnderlying9 _ _ oo)) (by rfl)) (zp (Pure1.cast (v' := .int .u8 ((chA s (j + m) - 48 : Nat) : Int)) (.binOp rfl rfl (fun _ => Zki _ _ _ _ _ (wrap_u8 _ oo oo))) (by show Value.int _ _ = Value.int _ _; congr 1; omega)) (zp (.convert rfl (Qay _ (wrap_u64 _ oo oo))) (zp (Pure1.cast (v' := .int .u64 ((Vg s j (m + 1) : Nat) : Int)) (.binOp rfl rfl (fun _ => Zdi _ _ _ _ _ (wrap_u64 _ oo oo))) (by show Value.int _ _ = Value.int _ _; congr 1)) (zm rfl (zp (Pure1.cast (v' := .int .u64 ((10 ^ (m + 1) : Nat) : Int)) (.binOp rfl rfl (fun _ => Zgr _ _ _ _ _ (wrap_u64 _ oo oo))) (by show Value.int _ _ = Value.int _ _; congr 1; rw [Nat.pow_succ]; omega)) (za rfl (za rfl (zn (zr (zm rfl (zp (.pN ((j + m) + 1) (.add rfl rfl)) (za rfl (zn ?_)))))))))))))))))))); clear h; intro a w h
    exact ⟨m + 1, ⟨hm, by exact h.sub sA⟩, oo⟩
   ·
    skip
    have hme : m = cnt := dF hc44
    subst hme
    have hv := Zfh s j m (fun i h1 h2 => hd i oo)
    have hp : 10 ^ m ≤ 1000000000 := Nat.le_trans (Nat.pow_le_pow_right (n := 10) dd hc9) dd
    refine gC h (ze (zs (zS (zm rfl (zp (.builtin [_] rfl (Zk _ _ _)) (zm rfl (zn (zb ?_)))))))); clear h; intro a w h
    refine Zi (fun (i : Nat) a w => ∃ (Z : List Nat) (pt : Nat) (o2 : List (Nat × Obj)), (i ≤ l.length ∧ Z.length = l.length ∧ Wd Z ∧ Z.drop i = l.drop i ∧ pt ≤ 1000000000 ∧ Zr (Z.take i) + 4294967296 ^ i * pt = 10 ^ m * Zr (l.take i) + Vg s j m ∧ GrowO 1 54 (.slice ad l.length c) l.length (List.map (fun x : Nat => Value.int .u32 (x : Int)) Z) o2) ∧ St 99 S w0 [(0, .string s), (2, pB b2), (4, (.slice ad l.length c)), (5, nI (j + m)), (7, .int .u64 (((pt : Nat) : Int))), (8, .int .u64 (((10 ^ m : Nat) : Int))), (69, nI l.length), (70, nI i)] (o2 ++ ((b2, bV (Xk (0)) 47) :: [])) [] a w) (fun i => l.length - i) (0) (⟨l, Vg s j m, o, ⟨Nat.zero_le _, rfl, hW, rfl, oo, by rw [List.take_zero, Nat.pow_zero]; simp [Zr], hG⟩, by exact (h.drop (by repeat (first | exact List.Sublist.refl _ | apply List.Sublist.cons))).sub sA⟩) ?_; clear h
    rintro i a w ⟨Z, pt, o2, ⟨hil, hZl, hWZ, hdr, hpt, hva, hG2⟩, h⟩
    refine gC h (zS (zp (.lss rfl rfl) (zn (zs ?_)))); clear h; intro a w h
    refine Zb h rfl (fun hc71 => ?_) (fun hc71 => ?_)
    ·
     skip
     have hli : i < l.length := dT hc71
     obtain ⟨bL, RL, rfl, rfl, hRl, hRc⟩ := hG2.open oo
     rw [List.cons_append, List.nil_append] at h
     have hxW := hWZ.getD i
     obtain ⟨hcm, hcq⟩ := Qa6 hxW hpt hp
     obtain ⟨hs1, hs2⟩ := Ztv hli hZl hdr hva
     refine gC h (zk (zs (zb (zS (zm rfl (za rfl (zn (zS (zm rfl (zm rfl (zm rfl (zp (.indexAddr rfl rfl (Qr _ _ _ _ _ oo)) (zd rfl mm isAgg54 sizeOf54 ((congrArg _ (Nat.zero_add _)).trans (Zvj (enc := (fun x : Nat => Value.int .u32 (x : Int))) (l := Z) 0 oo)) ?_)))))))))))))
     refine zp (.convert rfl (Jj _ (wrap_u64 _ oo oo))) (zm rfl (zp (.binOp rfl rfl (fun _ => Zgr _ _ _ _ _ (wrap_u64 _ (by rw [← Int.natCast_mul]; omega) (by rw [← Int.natCast_mul]; omega)))) (zp (Pure1.cast (v' := .int .u64 (((pt + Z.getD i 0 * 10 ^ m) : Nat) : Int)) (.binOp rfl rfl (fun _ => Zdi _ _ _ _ _ (wrap_u64 _ oo oo))) (by show Value.int _ _ = Value.int _ _; congr 1)) (za rfl (zn (zS (zm rfl (zm rfl (zm rfl (zp (Pure1.cast (v' := .int .u32 (((pt + Z.getD i 0 * 10 ^ m) % 4294967296 : Nat) : Int)) (.convert rfl (Xi _)) (by rw [Qy]; congr 1)) (zp (.indexAddr rfl rfl (Qr _ _ _ _ _ oo)) (zt' rfl rfl ((congrArg (fun z => Qq _ z _) (Nat.zero_add _)).trans (Zzb (enc := (fun x : Nat => Value.int .u32 (x : Int))) Z RL i ((pt + Z.getD i 0 * 10 ^ m) % 4294967296) oo)) uu sizeOf54 rfl (by rw [List.size_toArray, List.length_append, List.length_map]; omega) rfl ?_))))))))))))
     refine zn (zr (zm rfl (zp (Pure1.cast (v' := .int .u64 (((pt + Z.getD i 0 * 10 ^ m) / 4294967296 : Nat) : Int)) (.binOp rfl rfl (fun _ => Xv _ _ _ (pt + Z.getD i 0 * 10 ^ m) 32 dd)) (by rfl)) (za rfl (zn (zr (zp (.pN (i + 1) (.add rfl rfl)) (zm rfl (zn ?_))))))))); intro a w h
     exact ⟨i + 1, ⟨Z.set i ((pt + Z.getD i 0 * 10 ^ m) % 4294967296), (pt + Z.getD i 0 * 10 ^ m) / 4294967296, [(bL, _)], ⟨oo, by rw [List.length_set]; exact hZl, hWZ.set _ _ (Nat.mod_lt _ dd), hs1, hcq, hs2, GrowO.close (by simp [hZl]) (by simpa using hRl) hRc⟩, by exact (h.drop (by repeat (first | exact List.Sublist.refl _ | apply List.Sublist.cons))).sub sA⟩, oo⟩
    ·
     skip
     have hie : i = l.length := dF hc71
     subst hie
     rw [List.take_of_length_le oo, List.take_length] at hva
     have hvn : Zr Z + 4294967296 ^ Z.length * pt = Vg s 0 (j + m) := by rw [hZl, hva, Zj9, hval, Nat.zero_add]
     rw [← hZl] at h hG2
     refine gC h (ze (zS (zm rfl (zp (.gtr rfl rfl) (zn ?_))))); clear h; intro a w h
     refine cW ?_
     refine Zb h rfl (fun hc91 => ?_) (fun hc91 => ?_)
     ·
      skip
      have hp0 : 0 < pt := dT hc91
      refine gC h (zr (zm rfl (zm rfl (zp (.convert rfl (Zw9 _ (wrap_u32 _ oo oo))) (zB [(_, _)] rfl (Ztx _) fun b95 => ?_))))); clear h; intro a w h
      refine Zc (Yj (σr := [(b2, bV (Xk (0)) 47)]) h rfl rfl (List.Perm.trans (List.Perm.refl _) (List.Perm.cons _ (List.Perm.refl _))) hG2 runUnderlying151 runUnderlying151 typeInfo54 sizeOf54 zeroValue54 rfl dd dd rfl rfl dd (by show 4 * (2 * ((Z).length + 1) + 192) ≤ 281474976710656; omega) dd ?_); clear h
      intro v96 o96 a w hG96 h
      obtain ⟨ad96, c96, rfl⟩ := hG96.is
      have hLn96 : (Z).length + 1 = (Z ++ [pt]).length := lA
      rw [hLn96] at h hG96
      replace hG96 : GrowO 1 54 (.slice ad96 (Z ++ [pt]).length c96) (Z ++ [pt]).length (List.map (fun x : Nat => Value.int .u32 (x : Int)) (Z ++ [pt])) o96 := by rw [List.map_append]; exact hG96
      refine gL h (za rfl (zn ?_)); clear h; intro a w h
      exact ⟨j + m, ⟨Z ++ [pt], ad96, c96, o96, ⟨hcj, hWZ.append (fun x hx => by rw [List.mem_singleton] at hx; omega), by rw [List.length_append, List.length_singleton]; omega, by rw [Jf]; simpa [Zr] using hvn, hG96⟩, by exact h.sub sA⟩, oo⟩
     ·
      skip
      have hp0 : pt = 0 := dF hc91
      subst hp0
      rw [Nat.mul_zero, Nat.add_zero] at hvn
      refine wp_skip ?_
      exact ⟨j + m, ⟨Z, ad, c, o2, ⟨hcj, hWZ, oo, hvn, hG2⟩, by exact h.sub sA⟩, oo⟩
  ·
   skip
   have hje : j = s.size := dF hc32
   subst hje
   have hcap := hG.le
   replace h := St.shareO' h hS hG
   refine gC h (ze (zS (zm rfl (zw [_] rfl call128 (Qcr ad c l hW hcap oo) (zt' rfl rfl Zl uu sizeOf47 rfl nb rfl ?_)))))
   refine za rfl (zn (zt ?_)); intro a w h
   refine Jk h (Ql h rfl (.cell rfl mr isAgg47 sizeOf47 Zh) (.tmp rfl)) ?_
   show Value.tuple #[Xk (Zr l), _] = _
   rw [hval]
theorem Zas (s : ByteArray) (a e i : Nat) (h : e ≤ s.size) (hi : i < e - a) : chA (s.extract a e) i = chA s (a + i) := by
 unfold chA
 rw [ByteArray.data_extract, Array.toList_extract, List.extract_eq_take_drop]
 simp [List.getD, List.getElem?_take, hi]
theorem Zct (s : ByteArray) (a e : Nat) (h : e ≤ s.size) : ∀ n, n ≤ e - a → Vg (s.extract a e) 0 n = Vg s a n
 | 0, _ => rfl
 | n + 1, hn => by rw [Vg, Vg, Zct s a e h n oo, Nat.zero_add, Zas s a e n h oo]
theorem Qbo (s : ByteArray) (a e : Nat) (h1 : a < e) (h2 : e ≤ s.size) (hs : s.size ≤ 4096) (hd : ∀ i, a ≤ i → i < e → Gm (chA s i) = true) (hl : chA s a = 48 → e = a + 1) : Xl Tryz.prog 162 [.string (s.extract a e)] (.tuple #[Xk (Vg s a (e - a)), .int .i64 0]) := by
 have hz : (s.extract a e).size = e - a := by rw [ByteArray.size_extract]; omega
 have h := Qf8 (s.extract a e) oo oo (fun i hi => by rw [Zas s a e i h2 oo]; exact hd _ oo oo) (fun h48 => by
  rw [Zas s a e 0 h2 oo] at h48
  have := hl h48; omega)
 rw [hz, Zct s a e h2 _ (Nat.le_refl _)] at h
 exact h
end
section
theorem Zfb (x0 : Int) (x1 : Int) (w : World) : (Instr.build 28 [(0, .int .i64 x0), (1, .int .i64 x1)].toArray).run Tryz.prog w = .ok (.agg #[.int .i64 x0, .int .i64 x1]) w := by simp [go_sem]
theorem Xt {b off : Nat} (w : World) : (Instr.fieldAt 78 (.pointer (some ⟨b, off, none⟩)) 1).run Tryz.prog w = .ok (.pointer (some ⟨b, off + 1, none⟩)) w := by
 simp [go_sem]
theorem Zbb {b off : Nat} (w : World) : (Instr.fieldAt 78 (.pointer (some ⟨b, off, none⟩)) 0).run Tryz.prog w = .ok (.pointer (some ⟨b, off + 0, none⟩)) w := by
 simp [go_sem]
theorem Zke {c0 c1 c2 v0 : Value} : Qq #[c0, c1, c2] 1 [v0] = #[c0, v0, c2] := rfl
abbrev faV (e k : Int) : Value := .iface 28 (.agg #[.int .i64 e, .int .i64 k])
abbrev rdB (b : Nat) (s : ByteArray) (k o : Nat) : Nat × Obj := (b, .cells #[.string s, .int .i64 ((k : Nat) : Int), .int .i64 ((o : Nat) : Int)] 78 (0, 0))
def Zlk (r : Except Fa (List Tm × Nat)) (b : Nat) (s : ByteArray) (o : Nat) (σ : List (Nat × Obj)) (Φ : List Zp) (v : Value) (σ' : List (Nat × Obj)) (Ψ : List Zp) : Prop :=
 ∃ p k' ad c, r = .ok (p, k') ∧ v = .slice ad p.length c ∧ σ' = rdB b s k' o :: σ ∧ Ψ = Row ad (cellsOf Qb p) :: Φ
def Zx1 {α : Type} (r : Except Fa α) (b : Nat) (σ : List (Nat × Obj)) (v : Value) (σ' : List (Nat × Obj)) : Prop :=
 ∃ e i ob, r = .error (e, i) ∧ v = faV e ((i : Nat) : Int) ∧ σ' = (b, ob) :: σ
theorem Zbg (e k : Int) (σ : List (Nat × Obj)) (Φ : List Zp) : Zlp Tryz.prog 37 [.int .i64 e, .int .i64 k] σ Φ (fun _ _ _ => False) (fun v σ' => v = faV e k ∧ σ' = σ) := by
 refine fn_introE func37 rfl ntmps37 (Nat.le_of_ble_eq_true rfl) ?_
 intro S w0 a w hS h
 refine wp_region_lit ?_
 refine gL h (zm rfl (zm rfl (zp (.build [(_, _), (_, _)] rfl (Zfb _ _)) ?_))); clear h; intro a w h
 refine Zc (Zzu (v := faV e k) h rfl (fun w => by simp [go_sem, Instr.makeInterface]) dd ?_); clear h; intro a h
 refine Zc (Zzt h rfl ?_)
 exact Zgl h h.mem ⟨rfl, rfl⟩ (List.Sublist.refl _) (fun _ hR => hR)
theorem Zn3 (n k : Int) (σ : List (Nat × Obj)) (Φ : List Zp) : Zlp Tryz.prog 72 [.int .i64 n, .int .i64 k] σ Φ (fun v σ' Ψ => ¬ n > 16384 ∧ v = .tuple #[] ∧ σ' = σ ∧ Φ = Ψ) (fun v σ' => n > 16384 ∧ v = faV 3 k ∧ σ' = σ) := by
 refine fn_introE func72 rfl ntmps72 nb ?_
 intro S w0 a w hS h
 refine gC h (zS (zm rfl (zp (.gtr rfl rfl) (zn ?_)))); clear h; intro a w h
 refine cW ?_
 refine Zb h rfl (fun hc5 => ?_) (fun hc5 => ?_)
 ·
  skip
  refine gC h (zr (zm rfl ?_)); clear h; intro a w h
  refine Zc (Jh h hS (vs := [_, _]) rfl call37 (Zbg 3 k _ _) (List.Perm.refl _) ss ?_ (fun _ _ _ _ _ hp _ => by exact hp.elim))
  rintro _ _ w' ⟨rfl, rfl⟩ hm
  exact Zgl h hm ⟨of_decide_eq_true hc5, rfl, rfl⟩ sl (fun _ hR => by repeat (first | exact hR | apply List.Mem.tail))
 ·
  skip
  refine wp_skip ?_
  refine endE h (Zb6 rfl) ⟨of_decide_eq_false hc5, rfl, rfl, rfl⟩ (List.Sublist.refl _) (fun _ h => h)
theorem Qbf (n k : Int) (hn : ¬ n > 16384) : Xl Tryz.prog 72 [.int .i64 n, .int .i64 k] (.tuple #[]) := by
 refine fn_intro func72 rfl ntmps72 nb ?_
 intro S w0 a hS h
 refine gC h (zS (zm rfl (zp (.gtr rfl rfl) (zn ?_)))); clear h; intro a w h
 refine cW ?_
 refine Zb h rfl (fun hc5 => (absurd (of_decide_eq_true hc5) hn)) (fun hc5 => ?_)
 refine wp_skip ?_
 refine Jk h (Zb6 rfl) ?_
 rfl
theorem Zyj (c : Nat) : Xl Tryz.prog 161 [.int .u8 ((c : Nat) : Int)] (.bool (Gm c)) := by
 refine fn_intro func161 rfl ntmps161 nb ?_
 intro S w0 a hS h
 refine gC h (zS (za rfl (zn (zS (zm rfl (zp (.geq rfl rfl) ?_)))))); clear h; intro a w h
 refine Zg h (fun hc4 h => ?_) (fun hc4 h => ?_)
 ·
  skip
  refine gL h (zm rfl (zq 5 rfl rfl (.move rfl) (zq 5 rfl rfl (.leq rfl rfl) (zp (.pickT rfl rfl) (za rfl (zn (zt ?_))))))); clear h; intro a w h
  refine Jk h (Zd h rfl (.tmp rfl)) ?_
  have h4 : 48 ≤ c := dT hc4
  refine congrArg Value.bool ?_
  unfold Gm
  rw [decide_eq_true h4, Bool.true_and]
  exact decide_eq_decide.2 oo
 ·
  skip
  refine gL h (zm rfl (zo 5 rfl rfl rfl (zo 5 rfl rfl rfl (zp (.pickF rfl rfl) (za rfl (zn (zt ?_))))))); clear h; intro a w h
  refine Jk h (Zd h rfl (.tmp rfl)) ?_
  have h4 : ¬ 48 ≤ c := dF hc4
  refine congrArg Value.bool ?_
  unfold Gm
  rw [decide_eq_false h4, Bool.false_and]
theorem Zn2 (b k o : Nat) (s : ByteArray) (hs : s.size ≤ 4096) (hk : k ≤ s.size) (σ : List (Nat × Obj)) (Φ : List Zp) : Znv Tryz.prog 36 [.pointer (some ⟨b, 0, none⟩)] (rdB b s k o :: σ) Φ (fun v σ' Ψ => v = .int .u8 ((Yu s k : Nat) : Int) ∧ σ' = rdB b s (Zm s k) o :: σ ∧ Φ = Ψ) := by
 refine fn_introM func36 rfl ntmps36 nb ?_
 intro S w0 a w hS h
 refine gC h (zS (za rfl (zn ?_))); clear h; intro a w h
 refine cW ?_
 refine Xu (fun a w => St 51 S w0 [(0, pB b)] (rdB b s (Zm s k) o :: σ) Φ a w) ?_ ?_
 ·
  skip
  refine wp_block ?_
  refine Zi (fun (k1 : Nat) a w => (k1 ≤ s.size ∧ Zm s k1 = Zm s k) ∧ St 51 S w0 [(0, pB b), (2, .int .u8 0)] ((b, bV (.agg #[.string s, .int .i64 ((k1 : Nat) : Int), .int .i64 ((o : Nat) : Int)]) 78) :: σ) (Φ) a w) (fun k1 => s.size - k1) (k) (⟨⟨hk, rfl⟩, by exact h.sub sA⟩) ?_; clear h
  rintro k1 a w ⟨⟨hk1, hb1⟩, h⟩
  refine gC h (zs (zs (yD Za [0, 1, 2, 3, 4, 5, 6, 7, 8, 9, 10, 11, 12, 13, 14, 15, 16, 17, 18, 19, 20, 21] (Zf kk) (ym rfl rfl (yp rfl (.nilCheck rfl) (yp rfl (.fA rfl Xt) (yd rfl rfl mr isAgg3 sizeOf3 Kh ?_))))))); clear h
  refine ym rfl rfl (yp rfl (.nilCheck rfl) (yp rfl (.fA rfl Zbb) (yd rfl rfl mr isAgg9 sizeOf9 Zcy ?_)))
  refine yp rfl (.builtin [_] rfl (Zt _)) (yp rfl (.lss rfl rfl) ?_)
  refine Xs (fun hc12  => ?_) (fun hc12  => ?_)
  ·
   skip
   have hlt : k1 < s.size := dT hc12
   refine ym rfl rfl (yq rfl rfl rfl (.move rfl) (yq rfl rfl rfl (.nilCheck rfl) (yq rfl rfl rfl (.fA rfl Zbb) (yg rfl rfl rfl rfl mr isAgg9 sizeOf9 Zcy ?_))))
   refine yq rfl rfl rfl (.move rfl) (yq rfl rfl rfl (.nilCheck rfl) (yq rfl rfl rfl (.fA rfl Xt) (yg rfl rfl rfl rfl mr isAgg3 sizeOf3 Kh ?_)))
   refine yq rfl rfl rfl (Pure1.cast (v' := .int .u8 ((chA s k1 : Nat) : Int)) (.index rfl rfl (fun _ => Zu runUnderlying9 _ _ oo)) (by rfl)) (yq rfl rfl rfl (.eql rfl rfl) (yp rfl (.pickT rfl rfl) (yn ?_))); intro a w h
   refine cW ?_
   refine Zb h rfl (fun hc24 => ?_) (fun hc24 => ?_)
   ·
    skip
    have h32 : chA s k1 = 32 := by have := eq_of_beq hc24; omega
    refine gC h (zk (zb (zr (zm rfl (zp (.nilCheck rfl) (zp (.fA rfl Xt) (zd rfl mr isAgg3 sizeOf3 Kh ?_)))))))
    refine zp (.pN (k1 + 1) (.add rfl rfl)) (zp (.nilCheck rfl) (zp (.fA rfl Xt) (zt' rfl rfl Zke uu sizeOf3 rfl nb rfl ?_))); intro a w h
    refine wpList_nil ?_
    exact ⟨k1 + 1, ⟨⟨oo, by rw [Ze9 hlt h32]; exact hb1⟩, by exact h.sub sA⟩, oo⟩
   ·
    skip
    have h32 : ¬ chA s k1 = 32 := fun e => by rw [e] at hc24; exact absurd hc24 dd
    refine wp_exit ?_
    have e := Zdo (s := s) (k := k1) (fun hh => h32 hh.2)
    rw [hb1] at e; subst e
    exact h.sub sA
  ·
   skip
   have hge : ¬ k1 < s.size := dF hc12
   refine ym rfl rfl (yo 13 rfl rfl rfl rfl (yo 13 rfl rfl rfl rfl (yo 13 rfl rfl rfl rfl (yo 13 rfl rfl rfl rfl (yo 13 rfl rfl rfl rfl (yo 13 rfl rfl rfl rfl (yo 13 rfl rfl rfl rfl (yo 13 rfl rfl rfl rfl (yo 13 rfl rfl rfl rfl (yo 13 rfl rfl rfl rfl (yp rfl (.pickF rfl rfl) (yn ?_)))))))))))); intro a w h
   refine cW ?_
   refine Ze h rfl ?_
   refine wp_exit ?_
   have e := Zdo (s := s) (k := k1) (fun hh => hge hh.1)
   rw [hb1] at e; subst e
   exact h.sub sA
 ·
  clear h
  intro a w h
  have hbl := Ja hk
  refine gC h (zs (zs (yD Za [0, 1, 2, 3, 4, 5, 6, 7, 8, 9] (Zf kk) (ym rfl rfl (yp rfl (.nilCheck rfl) (yp rfl (.fA rfl Xt) (yd rfl rfl mr isAgg3 sizeOf3 Kh ?_))))))); clear h
  refine ym rfl rfl (yp rfl (.nilCheck rfl) (yp rfl (.fA rfl Zbb) (yd rfl rfl mr isAgg9 sizeOf9 Zcy ?_)))
  refine yp rfl (.builtin [_] rfl (Zt _)) (yp rfl (.eql rfl rfl) (yn ?_)); intro a w h
  refine cW ?_
  refine Zb h rfl (fun hc41 => ?_) (fun hc41 => ?_)
  ·
   skip
   have he : Zm s k = s.size := by have := eq_of_beq hc41; omega
   refine gC h (zS (za rfl (zn (zt ?_)))); clear h; intro a w h
   refine Qdu h (Zd h rfl (.tmp rfl)) ⟨by unfold Yu; rw [if_pos he]; rfl, rfl, rfl⟩ (List.Sublist.refl _) (fun _ h => h)
  ·
   skip
   have he : Zm s k ≠ s.size := fun e => by rw [e] at hc41; simp at hc41
   refine gC h (zk (zs (yD Za [0, 1, 2, 3, 4, 5, 6, 7, 8, 9] (Zf kk) (ym rfl rfl (yp rfl (.nilCheck rfl) (yp rfl (.fA rfl Zbb) (yd rfl rfl mr isAgg9 sizeOf9 Zcy ?_))))))); clear h
   refine ym rfl rfl (yp rfl (.nilCheck rfl) (yp rfl (.fA rfl Xt) (yd rfl rfl mr isAgg3 sizeOf3 Kh ?_)))
   refine yp rfl (Pure1.cast (v' := .int .u8 ((chA s (Zm s k) : Nat) : Int)) (.index rfl rfl (fun _ => Zu runUnderlying9 _ _ oo)) (by rfl)) (yp rfl (.assign rfl) (yn (zt ?_))); intro a w h
   refine Qdu h (Zd h rfl (.tmp rfl)) ⟨by unfold Yu; rw [if_neg he], rfl, rfl⟩ (List.Sublist.refl _) (fun _ h => h)
theorem Zbe (b k o : Nat) (s : ByteArray) (hs : s.size ≤ 4096) (hk : k ≤ s.size) (σ : List (Nat × Obj)) (Φ : List Zp) (c : Nat) (hc : 0 < c) : Znv Tryz.prog 70 [.pointer (some ⟨b, 0, none⟩), .int .u8 ((c : Nat) : Int)] (rdB b s k o :: σ) Φ (fun v σ' Ψ => v = .tuple #[.int .i64 (((if Zn s c k = true then Zm s k else 0) : Nat) : Int), .bool (Zn s c k)] ∧ σ' = rdB b s (if Zn s c k = true then Zm s k + 1 else Zm s k) o :: σ ∧ Φ = Ψ) := by
 have hbl := Ja hk
 refine fn_introM func70 rfl ntmps70 nb ?_
 intro S w0 a w hS h
 refine gC h (zS (za rfl (za rfl (zn (zs (zs ?_)))))); clear h; intro a w h
 refine Qc6 Za h ?_; clear h; intro a w h
 refine a_pre (n := 34) (S := S) (w0 := w0) [4, 5, 6, 7, 8, 9, 10, 11, 12, 13, 14, 15] [(0, pB b), (1, .int .u8 (((c : Nat) : Int))), (4, .int .i64 0), (5, .bool false), (6, pB b), (7, .int .u8 (((Yu s k : Nat) : Int))), (8, .int .u8 (((c : Nat) : Int))), (9, .bool ((((Yu s k : Nat) : Int)) != (((c : Nat) : Int))))] ((b, bV (.agg #[.string s, .int .i64 ((Zm s k : Nat) : Int), .int .i64 ((o : Nat) : Int)]) 78) :: σ) (Φ) ?_ ?_
 ·
  skip
  clear h; intro a w h
  refine Qcg [4, 5, 6, 7, 8, 9, 10, 11, 12, 13, 14, 15] h kk (Zf kk) ?_; clear h
  refine ym rfl rfl ?_
  refine Xs (fun hc10  => ?_) (fun hc10  => ?_)
  ·
   skip
   have hn : Yu s k ≠ c := fun e => by rw [e] at hc10; simp at hc10
   refine yo 10 rfl rfl rfl rfl (yo 10 rfl rfl rfl rfl (yo 10 rfl rfl rfl rfl (yo 10 rfl rfl rfl rfl (yo 10 rfl rfl rfl rfl (yo 10 rfl rfl rfl rfl (yo 10 rfl rfl rfl rfl (yo 10 rfl rfl rfl rfl (yo 10 rfl rfl rfl rfl (yo 10 rfl rfl rfl rfl (yp rfl (.pickT rfl rfl) (yn ?_))))))))))); intro a w h
   refine cW ?_
   refine Zj h rfl ?_
   refine gC h (zS (za rfl (za rfl (zn (zt ?_))))); clear h; intro a w h
   have hf : Zn s c k = false := by unfold Zn; rw [decide_eq_false hn, Bool.false_and]
   refine Qdu h (Ql h rfl (.tmp rfl) (.tmp rfl)) ⟨by rw [hf]; rfl, by rw [hf]; rfl, rfl⟩ (List.Sublist.refl _) (fun _ h => h)
  ·
   skip
   have hn : Yu s k = c := by simp at hc10; omega
   refine yq rfl rfl rfl (.move rfl) (yq rfl rfl rfl (.nilCheck rfl) (yq rfl rfl rfl (.fA rfl Xt) (yg rfl rfl rfl rfl mr isAgg3 sizeOf3 Kh ?_)))
   refine yq rfl rfl rfl (.move rfl) (yq rfl rfl rfl (.nilCheck rfl) (yq rfl rfl rfl (.fA rfl Zbb) (yg rfl rfl rfl rfl mr isAgg9 sizeOf9 Zcy ?_)))
   refine yq rfl rfl rfl (.builtin [_] rfl (Zt _)) (yq rfl rfl rfl (.eql rfl rfl) (yp rfl (.pickF rfl rfl) (yn ?_))); intro a w h
   refine cW ?_
   refine Zb h rfl (fun hc21 => ?_) (fun hc21 => ?_)
   ·
    skip
    have he : Zm s k = s.size := by have := eq_of_beq hc21; omega
    refine gC h (zS (za rfl (za rfl (zn (zt ?_))))); clear h; intro a w h
    have hf : Zn s c k = false := by unfold Zn; rw [decide_eq_true he]; simp
    refine Qdu h (Ql h rfl (.tmp rfl) (.tmp rfl)) ⟨by rw [hf]; rfl, by rw [hf]; rfl, rfl⟩ (List.Sublist.refl _) (fun _ h => h)
   ·
    skip
    have he : Zm s k ≠ s.size := fun e => by rw [e] at hc21; simp at hc21
    refine gC h (zk (zS (zm rfl (zp (.nilCheck rfl) (zp (.fA rfl Xt) (zd rfl mr isAgg3 sizeOf3 Kh ?_))))))
    refine zp (.pN ((Zm s k) + 1) (.add rfl rfl)) (zp (.nilCheck rfl) (zp (.fA rfl Xt) (zt' rfl rfl Zke uu sizeOf3 rfl nb rfl ?_)))
    refine zn (zS (zm rfl (zp (.nilCheck rfl) (zp (.fA rfl Xt) (zd rfl mr isAgg3 sizeOf3 Kh ?_)))))
    refine zp (.pO (((Zm s k) + 1) - 1) (.sub rfl rfl)) (za rfl (za rfl (zn (zt ?_)))); intro a w h
    have hf : Zn s c k = true := by unfold Zn; rw [decide_eq_true hn, decide_eq_false he]; rfl
    refine Qdu h (Ql h rfl (.tmp rfl) (.tmp rfl)) ⟨by rw [hf]; rfl, by rw [hf]; rfl, rfl⟩ (List.Sublist.refl _) (fun _ h => h)
 ·
  skip
  intro hkey
  refine Ziq [0, 2] kk dd ?_; intro i hi
  simp only [List.mem_cons, List.not_mem_nil, or_false] at hi
  rcases hi with rfl | rfl
  focus
   refine Zj1 h rfl (.move rfl) dd ?_; clear h; intro a h
   refine Ziq [1, 2] kk dd ?_; intro i hi
   simp only [List.mem_cons, List.not_mem_nil, or_false] at hi
   rcases hi with rfl | rfl
   focus
    refine Zpr h hS rfl (vs := [_]) rfl call36 (Zn2 b k o s hs hk _ Φ) (List.Perm.refl _) ss dd ?_; clear h; rintro v7 σ7 Ψ7 a w ⟨rfl, rfl, rfl⟩ h
    refine Ziq [2] kk dd ?_; intro i hi
    simp only [List.mem_cons, List.not_mem_nil, or_false] at hi
    rcases hi with rfl
    refine Zj1 h rfl (.move rfl) dd ?_; clear h; intro a h
   rotate_left
   focus
    refine Zj1 h rfl (.move rfl) dd ?_; clear h; intro a h
    refine Ziq [1] kk dd ?_; intro i hi
    simp only [List.mem_cons, List.not_mem_nil, or_false] at hi
    rcases hi with rfl
    refine Zpr h hS rfl (vs := [_]) rfl call36 (Zn2 b k o s hs hk _ Φ) (List.Perm.refl _) ss dd ?_; clear h; rintro v7 σ7 Ψ7 a w ⟨rfl, rfl, rfl⟩ h
  rotate_left 2
  focus
   refine Zj1 h rfl (.move rfl) dd ?_; clear h; intro a h
   refine Ziq [0] kk dd ?_; intro i hi
   simp only [List.mem_cons, List.not_mem_nil, or_false] at hi
   rcases hi with rfl
   refine Zj1 h rfl (.move rfl) dd ?_; clear h; intro a h
   refine Ziq [1] kk dd ?_; intro i hi
   simp only [List.mem_cons, List.not_mem_nil, or_false] at hi
   rcases hi with rfl
   refine Zpr h hS rfl (vs := [_]) rfl call36 (Zn2 b k o s hs hk _ Φ) (List.Perm.refl _) ss dd ?_; clear h; rintro v7 σ7 Ψ7 a w ⟨rfl, rfl, rfl⟩ h
  all_goals
   refine Ziq [3] kk dd ?_; intro i hi
   simp only [List.mem_cons, List.not_mem_nil, or_false] at hi
   rcases hi with rfl
   refine Zj1 h rfl (.binOp rfl rfl (fun _ => Zvb _ _ _ _ _)) dd ?_; clear h; intro a h
   exact a_conv kk (hkey _ _ (h.sub sA))
theorem Zlm (b k o : Nat) (s : ByteArray) (hs : s.size ≤ 4096) (hk : k ≤ s.size) (σ : List (Nat × Obj)) (Φ : List Zp) : Zlp Tryz.prog 113 [.pointer (some ⟨b, 0, none⟩)] (rdB b s k o :: σ) Φ (fun v σ' Ψ => ∃ n a e, Vy s k = .ok (n, a, e) ∧ v = .tuple #[Vv ((n : Int) : Rat), .int .i64 ((a : Nat) : Int)] ∧ σ' = rdB b s e o :: σ ∧ Φ = Ψ) (Zx1 (Vy s k) b σ) := by
 have hbl := Ja hk
 refine fn_introE func113 rfl ntmps113 nb ?_
 intro S w0 a w hS h
 refine gC h (zS (zz Zg9 fun b2 => za rfl (zn (zs (zS (zm rfl ?_)))))); clear h; intro a w h
 refine Zc (Xc h hS (vs := [_]) rfl call36 (Zn2 b k o s hs hk _ Φ) ((pm_cc (List.Perm.refl _))) ss ss ?_); clear h; rintro v10 σ10 Ψ10 a w ⟨rfl, rfl, rfl⟩ h
 refine gL h (zv [_] rfl call161 (Zyj _) (zp (.unOp rfl (Ji _)) (zn ?_))); clear h; intro a w h
 refine cW ?_
 refine Zb h rfl (fun hc12 => ?_) (fun hc12 => ?_)
 ·
  skip
  have h0 : Gm (Yu s k) = false := by simpa using hc12
  refine gC h (zr (zm rfl (zp (.nilCheck rfl) (zp (.fA rfl Xt) (zd rfl mr isAgg3 sizeOf3 Kh ?_))))); clear h; intro a w h
  refine Zc (Jh h hS (vs := [_, _]) rfl call37 (Zbg 4 _ _ _) (List.Perm.refl _) ss ?_ (fun _ _ _ _ _ hp _ => by exact hp.elim))
  rintro _ _ w' ⟨rfl, rfl⟩ hm
  exact Zgl h hm ⟨4, Zm s k, _, by unfold Vy; simp only [h0, if_true], rfl, rfl⟩ sl (fun _ hR => by repeat (first | exact hR | apply List.Mem.tail))
 ·
  skip
  have h0 : Gm (Yu s k) = true := by simpa using hc12
  obtain ⟨hN1, hN⟩ := Zq4 hk h0
  have hlt0 := hN.lt
  have hle0 := hN.le
  refine gC h (zk (zS (zm rfl (zp (.nilCheck rfl) (zp (.fA rfl Xt) (zd rfl mr isAgg3 sizeOf3 Kh ?_))))))
  refine za rfl (zn ?_); intro a w h
  refine cW ?_
  refine Xu (fun a w => St 91 S w0 [(0, pB b), (4, nI (Zm s k)), (2, pB b2)] (rdB b s (Zds s (Zm s k) (s.size - Zm s k) (Zm s k)) o :: (b2, .cells (Vv 0).cells 53 (0, 0)) :: σ) Φ a w) ?_ ?_
  ·
   skip
   refine wp_block ?_
   refine Zi (fun (k1 : Nat) a w => (k1 ≤ s.size ∧ Zm s k ≤ k1 ∧ Zds s (Zm s k) (s.size - k1) k1 = Zds s (Zm s k) (s.size - Zm s k) (Zm s k)) ∧ St 91 S w0 [(0, pB b), (2, pB b2), (3, .int .i64 0), (4, nI (Zm s k)), (21, nI (Zm s k))] ((b, bV (.agg #[.string s, .int .i64 ((k1 : Nat) : Int), .int .i64 ((o : Nat) : Int)]) 78) :: (b2, bV (Vv (0)) 53) :: σ) (Φ) a w) (fun k1 => s.size - k1) (Zm s k) (⟨⟨hbl, Nat.le_refl _, rfl⟩, by exact h.sub sA⟩) ?_; clear h
   rintro k1 a w ⟨⟨hk1, hk2, hd1⟩, h⟩
   refine gC h (zs (zs (yD Za [0, 1, 2, 3, 4, 5, 6, 7, 8, 9, 10, 11, 12, 13, 14, 15, 16, 17, 18, 19, 20, 21, 22, 23, 24, 25, 26, 27, 28, 29, 30, 31, 32, 33, 34, 35, 36, 37, 38] (Zf kk) (ym rfl rfl (yp rfl (.nilCheck rfl) (yp rfl (.fA rfl Xt) (yd rfl rfl mr isAgg3 sizeOf3 Kh ?_))))))); clear h
   refine ym rfl rfl (yp rfl (.nilCheck rfl) (yp rfl (.fA rfl Zbb) (yd rfl rfl mr isAgg9 sizeOf9 Zcy ?_)))
   refine yp rfl (.builtin [_] rfl (Zt _)) (yp rfl (.lss rfl rfl) ?_)
   refine Xs (fun hc31  => ?_) (fun hc31  => ?_)
   ·
    skip
    have hlt : k1 < s.size := dT hc31
    refine ym rfl rfl (yq rfl rfl rfl (.move rfl) (yq rfl rfl rfl (.nilCheck rfl) (yq rfl rfl rfl (.fA rfl Zbb) (yg rfl rfl rfl rfl mr isAgg9 sizeOf9 Zcy ?_))))
    refine yq rfl rfl rfl (.move rfl) (yq rfl rfl rfl (.nilCheck rfl) (yq rfl rfl rfl (.fA rfl Xt) (yg rfl rfl rfl rfl mr isAgg3 sizeOf3 Kh ?_)))
    refine yq rfl rfl rfl (Pure1.cast (v' := .int .u8 ((chA s k1 : Nat) : Int)) (.index rfl rfl (fun _ => Zu runUnderlying9 _ _ oo)) (by rfl)) ?_
    refine Zcb rfl rfl rfl kk (vs := [_]) rfl call161 (Zyj _) dd ?_
    refine Xs (fun hc42  => ?_) (fun hc42  => ?_)
    ·
     skip
     skip
     refine yp rfl (.pickT rfl rfl) (ym rfl rfl (yq rfl rfl rfl (.move rfl) (yq rfl rfl rfl (.nilCheck rfl) (yq rfl rfl rfl (.fA rfl Xt) (yg rfl rfl rfl rfl mr isAgg3 sizeOf3 Kh ?_)))))
     refine yq rfl rfl rfl (.move rfl) (yq rfl rfl rfl (.eql rfl rfl) ?_)
     refine Xs (fun hc50  => ?_) (fun hc50  => ?_)
     focus
      have hst : k1 < s.size ∧ Gm (chA s k1) = true ∧ (k1 = Zm s k ∨ chA s (Zm s k) ≠ 48) := ⟨hlt, hc42, .inl (by have := eq_of_beq hc50; omega)⟩
      refine yq rfl rfl rfl (.move rfl) (yo 51 rfl rfl rfl rfl (yo 51 rfl rfl rfl rfl (yo 51 rfl rfl rfl rfl (yo 51 rfl rfl rfl rfl (yo 51 rfl rfl rfl rfl (yo 51 rfl rfl rfl rfl (yo 51 rfl rfl rfl rfl (yq rfl rfl rfl (.pickT rfl rfl) (yp rfl (.pickT rfl rfl) (yn ?_)))))))))); intro a w h
      refine cW ?_
      refine Zj h rfl ?_
     rotate_left
     focus
      have hne : k1 ≠ Zm s k := fun e => by rw [e] at hc50; simp at hc50
      refine yq rfl rfl rfl (.move rfl) (yq rfl rfl rfl (.move rfl) (yq rfl rfl rfl (.nilCheck rfl) (yq rfl rfl rfl (.fA rfl Zbb) (yg rfl rfl rfl rfl mr isAgg9 sizeOf9 Zcy ?_))))
      refine yq rfl rfl rfl (.move rfl) (yq rfl rfl rfl (Pure1.cast (v' := .int .u8 ((chA s (Zm s k) : Nat) : Int)) (.index rfl rfl (fun _ => Zu runUnderlying9 _ _ oo)) (by rfl)) (yq rfl rfl rfl (.neq rfl rfl) (yq rfl rfl rfl (.pickF rfl rfl) (yp rfl (.pickT rfl rfl) (yn ?_))))); intro a w h
      refine cW ?_
      refine Zb h rfl (fun hc60 => ?_) (fun hc60 => ?_)
      rotate_left
      ·
       skip
       have h48 : chA s (Zm s k) = 48 := by simp at hc60; omega
       refine wp_exit ?_
       rw [Gj (s := s) (a := Zm s k) (k := k1) (fun hh => hh.2.2.elim hne (fun h9 => h9 h48))] at hd1
       subst hd1
       exact h.sub sA
      have hst : k1 < s.size ∧ Gm (chA s k1) = true ∧ (k1 = Zm s k ∨ chA s (Zm s k) ≠ 48) := ⟨hlt, hc42, .inr (fun e => by rw [e] at hc60; simp at hc60)⟩
     all_goals
      refine gC h (zk (zb (zr (zm rfl (zp (.nilCheck rfl) (zp (.fA rfl Xt) (zd rfl mr isAgg3 sizeOf3 Kh ?_)))))))
      refine zp (.pN (k1 + 1) (.add rfl rfl)) (zp (.nilCheck rfl) (zp (.fA rfl Xt) (zt' rfl rfl Zke uu sizeOf3 rfl nb rfl ?_))); intro a w h
      refine wpList_nil ?_
      exact ⟨k1 + 1, ⟨⟨oo, oo, (Zar hst).trans hd1⟩, by exact h.sub sA⟩, oo⟩
    ·
     skip
     skip
     refine yp rfl (.pickT rfl rfl) (ym rfl rfl (yo 44 rfl rfl rfl rfl (yo 44 rfl rfl rfl rfl (yo 44 rfl rfl rfl rfl (yo 44 rfl rfl rfl rfl (yo 44 rfl rfl rfl rfl (yo 44 rfl rfl rfl rfl (yo 44 rfl rfl rfl rfl (yu 51 rfl rfl rfl (yu 51 rfl rfl rfl (yu 51 rfl rfl rfl (yu 51 rfl rfl rfl (yu 51 rfl rfl rfl (yu 51 rfl rfl rfl (yu 51 rfl rfl rfl (yo 44 rfl rfl rfl rfl (yp rfl (.pickF rfl rfl) (yn ?_)))))))))))))))))); intro a w h
     refine cW ?_
     refine Ze h rfl ?_
     refine wp_exit ?_
     rw [Gj (s := s) (a := Zm s k) (k := k1) (fun hh => by rw [hc42] at hh; exact absurd hh.2.1 dd)] at hd1
     subst hd1
     exact h.sub sA
   ·
    skip
    have hge : ¬ k1 < s.size := dF hc31
    refine ym rfl rfl (yo 32 rfl rfl rfl rfl (yo 32 rfl rfl rfl rfl (yo 32 rfl rfl rfl rfl (yo 32 rfl rfl rfl rfl (yo 32 rfl rfl rfl rfl (yo 32 rfl rfl rfl rfl (yo 32 rfl rfl rfl rfl (yo 32 rfl rfl rfl rfl (yo 32 rfl rfl rfl rfl (yo 32 rfl rfl rfl rfl (yp rfl (.pickF rfl rfl) (ym rfl rfl (yo 44 rfl rfl rfl rfl (yo 44 rfl rfl rfl rfl (yo 44 rfl rfl rfl rfl (yo 44 rfl rfl rfl rfl (yo 44 rfl rfl rfl rfl (yo 44 rfl rfl rfl rfl (yo 44 rfl rfl rfl rfl (yu 51 rfl rfl rfl (yu 51 rfl rfl rfl (yu 51 rfl rfl rfl (yu 51 rfl rfl rfl (yu 51 rfl rfl rfl (yu 51 rfl rfl rfl (yu 51 rfl rfl rfl (yo 44 rfl rfl rfl rfl (yp rfl (.pickF rfl rfl) (yn ?_))))))))))))))))))))))))))))); intro a w h
    refine cW ?_
    refine Ze h rfl ?_
    refine wp_exit ?_
    rw [Gj (s := s) (a := Zm s k) (k := k1) (fun hh => hge hh.1)] at hd1
    subst hd1
    exact h.sub sA
  ·
   skip
   clear h
   intro a w h
   refine gC h (zs (yD Za [0, 1, 2, 3, 4, 5, 6, 7, 8, 9, 10, 11, 12, 13, 14, 15, 16] (Kv ⟨.inl rfl, .inl rfl, .inl rfl, .inl rfl, .inl rfl, .inl rfl, .inl rfl, .inl rfl, .inl rfl, .inl rfl, .inl rfl, .inl rfl, .inl rfl, .inl rfl, .inr ⟨5, 47, _, _, _, rfl, rfl, by decide, _, Zy2⟩, .inl rfl, .inl rfl, trivial⟩) (ym rfl rfl (yp rfl (.nilCheck rfl) (yp rfl (.fA rfl Zbb) (yd rfl rfl mr isAgg9 sizeOf9 Zcy ?_)))))); clear h
   refine ym rfl rfl (ym rfl rfl (yp rfl (.nilCheck rfl) (yp rfl (.fA rfl Xt) (yd rfl rfl mr isAgg3 sizeOf3 Kh ?_))))
   refine yp rfl (.slice rfl (some _) (some _) none rfl rfl rfl (Zuz _ _ _ oo oo)) (yv [_] rfl rfl call162 (Qbo s (Zm s k) (Zds s (Zm s k) (s.size - Zm s k) (Zm s k)) hN.lt hN.le hs hN.dig hN.lead) (ym rfl rfl (yp rfl (.eX rfl) (yp rfl (.eX rfl) (yz rfl Zy2 fun b5 => yt rfl rfl rfl Zl uu sizeOf47 rfl nb rfl ?_)))))
   refine yp rfl (.assign rfl) (yn (zS (zd rfl mr isAgg47 sizeOf47 Zh ?_)))
   refine zv [_, _] rfl call75 (Zde false _) (zv [_] rfl call98 (C_Of 1 dd) (zv [_, _] rfl call163 (Qbn _ (Nat.le_trans (Yx (hN.big hs)) dd)) (zm rfl (zp (.eX rfl) (zp (.eX rfl) (zz Zg9 fun b7 => zt' rfl rfl Xa uu sizeOf53 rfl nb rfl ?_))))))
   refine za rfl (zn (zS (zd rfl mr isAgg53 sizeOf53 Zx ?_)))
   refine zm rfl (zt' rfl rfl Xa uu sizeOf53 rfl nb rfl ?_)
   refine za rfl (zn (zt ?_)); intro a w h
   refine Zvh h (Ql h rfl (.cell rfl mr isAgg53 sizeOf53 Zx) (.tmp rfl)) ⟨_, _, _, hN1, rfl, rfl, rfl⟩ sl (fun _ hR => by repeat (first | exact hR | apply List.Mem.tail))
end
end Go.Proofs.YtgkicbaomcmfoaaGreatDoor
