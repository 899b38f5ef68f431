/- Walks of functions. By an AI agent. -/
import Derived.Test.YtddhlkfpdjmplaaGreatDoorRefs
set_option linter.unusedVariables false
set_option linter.unusedSimpArgs false
set_option maxRecDepth 4000
namespace Go.Proofs.YtddhlkfpdjmplaaGreatDoor
open Go Go.Proofs Go.Fx Tryz
attribute [local irreducible] Oper.wp Code.wp wpList Fx.Head wpOp
section
def exB (n : Nat) : List UInt8 := if 10 ≤ n then [94, 49, UInt8.ofNat (48 + n - 10)] else if 1 < n then [94, UInt8.ofNat (48 + n)] else []
def Zdo (s nm : ByteArray) (n : Nat) : ByteArray :=
 if n = 0 then s else
 if 10 ≤ n then (((if s = ⟨#[]⟩ then s else s ++ ⟨#[42]⟩) ++ nm) ++ ⟨#[94, 49]⟩) ++ ⟨#[UInt8.ofNat (48 + n - 10)]⟩
 else if 1 < n then (((if s = ⟨#[]⟩ then s else s ++ ⟨#[42]⟩) ++ nm) ++ ⟨#[94]⟩) ++ ⟨#[UInt8.ofNat (48 + n)]⟩
 else (if s = ⟨#[]⟩ then s else s ++ ⟨#[42]⟩) ++ nm
def Zyc (nm : List UInt8) (n : Nat) : List UInt8 := if n = 0 then [] else nm ++ exB n
theorem Zkv {s : ByteArray} : s = ⟨#[]⟩ ↔ s.data.toList = [] := by
 constructor
 · intro h; rw [h]
 · intro h; apply ByteArray.ext; apply Array.ext'; rw [h]
theorem Zpy (s nm : ByteArray) (n : Nat) : (Zdo s nm n).data.toList = if n = 0 then s.data.toList else (if s.data.toList = [] then [] else s.data.toList ++ [42]) ++ Zyc nm.data.toList n := by
 have e : (if s = ⟨#[]⟩ then s else s ++ ⟨#[42]⟩).data.toList = if s.data.toList = [] then [] else s.data.toList ++ [42] := by
  by_cases h : s = ⟨#[]⟩
  · rw [if_pos h, if_pos (Zkv.1 h), Zkv.1 h]
  · rw [if_neg h, if_neg (fun h2 => h (Zkv.2 h2)), ByteArray.data_append, Array.toList_append]
 unfold Zdo Zyc exB
 by_cases h0 : n = 0
 · rw [if_pos h0, if_pos h0]
 ·
  rw [if_neg h0, if_neg h0, if_neg h0]
  by_cases h1 : 10 ≤ n
  ·
   rw [if_pos h1, if_pos h1]
   simp only [ByteArray.data_append, Array.toList_append, e, List.append_assoc]; rfl
  ·
   rw [if_neg h1, if_neg h1]
   by_cases h2 : 1 < n
   ·
    rw [if_pos h2, if_pos h2]
    simp only [ByteArray.data_append, Array.toList_append, e, List.append_assoc]; rfl
   ·
    rw [if_neg h2, if_neg h2]
    simp only [ByteArray.data_append, Array.toList_append, e, List.append_nil]
def rT (t : Tm) : ByteArray := Zdo (Zdo (if Gj (ab t.c) = ⟨#[49]⟩ ∧ t.i + t.j > 0 then ⟨#[]⟩ else Gj (ab t.c)) ⟨#[120]⟩ t.i) ⟨#[121]⟩ t.j
theorem Qgd : ∀ i, i < 13 → ∀ j, j < 13 → ltB i j = (if j = 0 then Zyc [120] i else (if Zyc [120] i = [] then [] else Zyc [120] i ++ [42]) ++ Zyc [121] j) := by decide +kernel
theorem Qbz : ∀ i, i < 13 → ∀ j, j < 13 → (if i + j = 0 then [] else 42 :: ltB i j) = (if i = 0 then [] else 42 :: Zyc [120] i) ++ (if j = 0 then [] else 42 :: Zyc [121] j) := by decide +kernel
theorem Qdx : qB ((1 : Int) : Rat) = [49] := by decide +kernel
theorem Zvs {x : Rat} (h : 0 ≤ x.num) : Gj x = ⟨#[49]⟩ ↔ x = ((1 : Int) : Rat) := by
 have e := Zvt h
 constructor
 ·
  intro h1
  rw [h1] at e
  exact Zws h dd (by rw [← e, Qdx])
 ·
  intro h1
  apply ByteArray.ext; apply Array.ext'; rw [e, h1, Qdx]
theorem rT_B {t : Tm} (hi : t.i < 13) (hj : t.j < 13) : (rT t).data.toList = Zhn t := by
 have hn : 0 ≤ (ab t.c).num := by rw [(Zbn t.c).1]; omega
 have hq := Zvt hn
 unfold rT Zhn
 rw [Zpy, Zpy]
 by_cases h1 : ab t.c = ((1 : Int) : Rat) ∧ t.i + t.j ≠ 0
 ·
  have hS : (if Gj (ab t.c) = ⟨#[49]⟩ ∧ t.i + t.j > 0 then ⟨#[]⟩ else Gj (ab t.c)) = (⟨#[]⟩ : ByteArray) := if_pos ⟨(Zvs hn).2 h1.1, oo⟩
  rw [hS, if_pos h1, Qgd t.i hi t.j hj]
  by_cases h0 : t.i = 0
  · rw [if_pos h0, h0]; simp [Zyc]
  · rw [if_neg h0]; simp
 ·
  have hS : (if Gj (ab t.c) = ⟨#[49]⟩ ∧ t.i + t.j > 0 then ⟨#[]⟩ else Gj (ab t.c)) = Gj (ab t.c) := if_neg (fun h => h1 ⟨(Zvs hn).1 h.1, by have := h.2; omega⟩)
  rw [hS, if_neg h1, Qbz t.i hi t.j hj, hq]
  have hne := Zpj (ab t.c)
  by_cases h0 : t.i = 0
  ·
   rw [if_pos h0, if_pos h0, if_neg hne]
   by_cases h2 : t.j = 0
   · rw [if_pos h2, if_pos h2]; simp
   · rw [if_neg h2, if_neg h2]; simp
  ·
   rw [if_neg h0, if_neg h0, if_neg hne]
   have hne2 : (qB (ab t.c) ++ [42]) ++ Zyc [120] t.i ≠ [] := by simp
   by_cases h2 : t.j = 0
   · rw [if_pos h2, if_pos h2]; simp
   · rw [if_neg h2, if_neg h2, if_neg hne2]; simp
theorem ltB_ne : ∀ i, i < 13 → ∀ j, j < 13 → i + j ≠ 0 → ltB i j ≠ [] := by decide +kernel
theorem tmB_ne {t : Tm} (hi : t.i < 13) (hj : t.j < 13) : Zhn t ≠ [] := by
 unfold Zhn
 split
 · rename_i h; exact ltB_ne _ hi _ hj h.2
 · exact fun e => Zpj _ (List.append_eq_nil_iff.1 e).1
structure Vis (X : List Rat) (d j : Nat) (V : List Tm) : Prop where
 nrm : Nrm V
 old : ∀ t ∈ V, t.i + t.j < d ∨ (t.i + t.j = d ∧ t.j < j)
 cf : ∀ a b, a + b < d ∨ (a + b = d ∧ b < j) → lin (at0 a b) V = X.getD (13 * a + b) 0
theorem Vis.zero (X : List Rat) : Vis X 0 0 [] := ⟨⟨(fun _ h => nomatch h), List.Pairwise.nil⟩, (fun _ h => nomatch h), fun a b h => by omega⟩
theorem Vis.row {X : List Rat} {d : Nat} {V : List Tm} (h : Vis X d (d + 1) V) : Vis X (d + 1) 0 V :=
 ⟨h.nrm, fun t ht => by have := h.old t ht; omega, fun a b hab => h.cf a b oo⟩
theorem Vis.no {X : List Rat} {d j : Nat} {V : List Tm} (h : Vis X d j V) (hj : j ≤ d) : lin (at0 (d - j) j) V = 0 :=
 Yc (fun t ht e => by have := h.old t ht; omega)
theorem Vis.skip {X : List Rat} {d j : Nat} {V : List Tm} (h : Vis X d j V) (hj : j ≤ d) (hz : X.getD (13 * (d - j) + j) 0 = 0) : Vis X d (j + 1) V :=
 ⟨h.nrm, fun t ht => by have := h.old t ht; omega, fun a b hab => by
  by_cases e : a + b = d ∧ b = j
  ·
   obtain ⟨e1, e2⟩ := e
   rw [show a = d - j by omega, e2, h.no hj, hz]
  · exact h.cf a b oo⟩
theorem Vis.step {X : List Rat} {d j : Nat} {V : List Tm} (h : Vis X d j V) (hj : j ≤ d) (hz : X.getD (13 * (d - j) + j) 0 ≠ 0) : Vis X d (j + 1) (V ++ [⟨d - j, j, X.getD (13 * (d - j) + j) 0⟩]) := by
 refine ⟨⟨fun t ht => ?_, ?_⟩, fun t ht => ?_, fun a b hab => ?_⟩
 ·
  rcases List.mem_append.1 ht with ht | ht
  · exact h.nrm.1 t ht
  · rw [List.mem_singleton.1 ht]; exact hz
 ·
  rw [List.pairwise_append]
  refine ⟨h.nrm.2, List.pairwise_singleton _ _, fun s hs t ht => ?_⟩
  rw [List.mem_singleton.1 ht, Kz]
  have := h.old s hs
  simp only; omega
 ·
  rcases List.mem_append.1 ht with ht | ht
  · have := h.old t ht; omega
  · rw [List.mem_singleton.1 ht]; simp only; omega
 ·
  rw [Jf]
  simp only [lin, at0]
  by_cases e : a + b = d ∧ b = j
  ·
   obtain ⟨e1, e2⟩ := e
   subst e2
   rw [show a = d - b by omega, h.no hj, if_pos ⟨rfl, rfl⟩]; grind
  · rw [if_neg oo, h.cf a b oo]; grind
theorem Vis.all {X : List Rat} {K : Nat} {V : List Tm} (h : Vis X 13 0 V) (hX : Tb 12 K X) : V = norm (pol X) := by
 refine Zlb h.nrm (Qr _) (fun φ => ?_)
 have key : ∀ a b, lin (at0 a b) (V ++ Zs (-1) (norm (pol X))) = 0 := fun a b => by
  rw [Jf, Vl, Kq]
  by_cases hb : b < 13
  ·
   rw [Ziq hb]
   by_cases hd : a + b < 13
   · rw [h.cf a b oo]; grind
   ·
    have h1 : X.getD (13 * a + b) 0 = 0 := by
     by_cases hk : 13 * a + b < 169
     ·
      by_cases h2 : X.getD (13 * a + b) 0 = 0
      · exact h2
      · have := hX.deg _ hk h2; omega
     · rw [List.getD_eq_getElem?_getD, List.getElem?_eq_none (by rw [hX.len]; omega)]; rfl
    rw [h1, Yc (fun t ht e => by have := h.old t ht; omega)]; grind
  ·
   rw [Yc (l := V) (fun t ht e => by have := h.old t ht; omega), Yc (l := pol X) (fun t ht e => by
    obtain ⟨k, _, rfl⟩ := Zip ht; have := Nat.mod_lt k (show 0 < 13 by decide); simp only at e; omega)]; grind
 have h2 := Zsk key φ
 rw [Jf, Vl] at h2
 grind
theorem Qgl {V : List Tm} (h : ∀ t ∈ V, t.i < 13 ∧ t.j < 13) : fuB V = [] ↔ V = [] := by
 constructor
 ·
  intro e
  match V, h, e with
  | [], _, _ => rfl
  | t :: r, h, e =>
   exfalso
   rw [fuB] at e
   have h1 := (List.append_eq_nil_iff.1 (List.append_eq_nil_iff.1 e).2).1
   exact tmB_ne (h t List.mem_cons_self).1 (h t List.mem_cons_self).2 h1
 · intro e; subst e; rfl
theorem Qgk (t : Tm) : fuB [t] = (if t.c.num.sign < 0 then [45] else []) ++ Zhn t := by rw [fuB, tlB, List.append_nil]
def fuA (V : List Tm) : ByteArray := ⟨(fuB V).toArray⟩
theorem Zlq {V : List Tm} (h : ∀ t ∈ V, t.i < 13 ∧ t.j < 13) : fuA V = ⟨#[]⟩ ↔ V = [] := by
 rw [Zkv]; unfold fuA; rw [List.toList_toArray]; exact Qgl h
theorem Zns {t : Tm} (hi : t.i < 13) (hj : t.j < 13) (s : ByteArray) (hs : s = if t.c.num.sign < 0 then ⟨#[45]⟩ ++ rT t else rT t) : fuA [] ++ s = fuA ([] ++ [t]) := by
 apply ByteArray.ext; apply Array.ext'
 rw [ByteArray.data_append, Array.toList_append]
 unfold fuA
 rw [List.toList_toArray, List.toList_toArray, List.nil_append, Qgk, ← rT_B hi hj]
 by_cases hg : t.c.num.sign < 0
 · rw [if_pos hg] at hs ⊢; rw [hs]; show _ ++ ((⟨#[45]⟩ : ByteArray) ++ rT t).data.toList = _; rw [ByteArray.data_append, Array.toList_append]; rfl
 · rw [if_neg hg] at hs ⊢; rw [hs]; rfl
theorem Zsg {t : Tm} {V : List Tm} (hi : t.i < 13) (hj : t.j < 13) (hV : V ≠ []) (s : ByteArray) (hs : s = if t.c.num.sign < 0 then ⟨#[32, 45, 32]⟩ ++ rT t else ⟨#[32, 43, 32]⟩ ++ rT t) : fuA V ++ s = fuA (V ++ [t]) := by
 apply ByteArray.ext; apply Array.ext'
 rw [ByteArray.data_append, Array.toList_append]
 unfold fuA
 match V, hV with
 | u :: r, _ =>
  rw [List.toList_toArray, List.toList_toArray, Zsf, ← rT_B hi hj]
  unfold sgB
  by_cases hg : t.c.num.sign < 0
  · rw [if_pos hg] at hs ⊢; rw [hs]; show _ ++ ((⟨#[32, 45, 32]⟩ : ByteArray) ++ rT t).data.toList = _; rw [ByteArray.data_append, Array.toList_append]
  · rw [if_neg hg] at hs ⊢; rw [hs]; show _ ++ ((⟨#[32, 43, 32]⟩ : ByteArray) ++ rT t).data.toList = _; rw [ByteArray.data_append, Array.toList_append]
theorem Zqy (p : List Tm) : Zkc Gj p = if fuA p = ⟨#[]⟩ then ⟨#[48]⟩ else fuA p := by
 apply ByteArray.ext; apply Array.ext'
 rw [Qdk]
 by_cases h : fuB p = []
 · rw [if_pos h, if_pos (by rw [Zkv]; unfold fuA; rw [List.toList_toArray]; exact h)]
 · rw [if_neg h, if_neg (by rw [Zkv]; unfold fuA; rw [List.toList_toArray]; exact h)]; unfold fuA; rw [List.toList_toArray]
theorem Qgn (n : Nat) : (exB n).length ≤ 3 := by
 unfold exB
 split
 · simp
 · split <;> simp
theorem Zcq (s nm : ByteArray) (n : Nat) (h : nm.size ≤ 1) : (Zdo s nm n).size ≤ s.size + 5 := by
 have e := Zpy s nm n
 have e2 : ∀ b : ByteArray, b.size = b.data.toList.length := fun b => by rw [Array.length_toList]; rfl
 have h2 := Qgn n
 rw [e2] at h ⊢; rw [e, e2]
 unfold Zyc
 split
 · omega
 · split <;> simp only [List.length_append, List.length_cons, List.length_nil] <;> omega
theorem Zwr (t : Tm) {M : Nat} (h : (Gj (ab t.c)).size ≤ M) : (rT t).size ≤ M + 10 := by
 unfold rT
 have h1 := Zcq (Zdo (if Gj (ab t.c) = ⟨#[49]⟩ ∧ t.i + t.j > 0 then ⟨#[]⟩ else Gj (ab t.c)) ⟨#[120]⟩ t.i) ⟨#[121]⟩ t.j (Nat.le_refl _)
 have h2 := Zcq (if Gj (ab t.c) = ⟨#[49]⟩ ∧ t.i + t.j > 0 then ⟨#[]⟩ else Gj (ab t.c)) ⟨#[120]⟩ t.i (Nat.le_refl _)
 have h3 : (if Gj (ab t.c) = ⟨#[49]⟩ ∧ t.i + t.j > 0 then ⟨#[]⟩ else Gj (ab t.c)).size ≤ M := by
  split
  · exact Nat.zero_le _
  · exact h
 omega
theorem Zvx {t : Tm} (hi : t.i < 13) (hj : t.j < 13) {M : Nat} (h : (Gj (ab t.c)).size ≤ M) : (Zhn t).length ≤ M + 10 := by
 rw [← rT_B hi hj, Array.length_toList]; exact Zwr t h
theorem Zvy {M : Nat} : ∀ {V : List Tm}, (∀ t ∈ V, t.i < 13 ∧ t.j < 13 ∧ (Gj (ab t.c)).size ≤ M) → (tlB V).length ≤ V.length * (M + 13)
 | [], _ => Nat.zero_le _
 | t :: V, h => by
  obtain ⟨h1, h2, h3⟩ := h t List.mem_cons_self
  have ih := Zvy (fun s hs => h s (List.mem_cons_of_mem _ hs))
  have h4 := Zvx h1 h2 h3
  have h5 : (sgB t).length = 3 := by unfold sgB; split <;> rfl
  rw [tlB, List.length_append, List.length_append, List.length_cons, Nat.add_mul]; omega
theorem Qcc {M : Nat} {V : List Tm} (h : ∀ t ∈ V, t.i < 13 ∧ t.j < 13 ∧ (Gj (ab t.c)).size ≤ M) : (fuA V).size ≤ V.length * (M + 13) := by
 show (fuB V).toArray.size ≤ _
 rw [List.size_toArray]
 match V, h with
 | [], _ => exact Nat.zero_le _
 | t :: r, h =>
  obtain ⟨h1, h2, h3⟩ := h t List.mem_cons_self
  have h4 := Zvx h1 h2 h3
  have h5 := Zvy (fun s hs => h s (List.mem_cons_of_mem t hs))
  rw [fuB, List.length_append, List.length_append, List.length_cons, Nat.add_mul]
  split <;> simp only [List.length_cons, List.length_nil] <;> omega
def dgX (X : List Rat) : Nat → Int
 | 0 => -1
 | k + 1 => if X.getD k 0 = 0 then dgX X k else max (dgX X k) ((k / 13 + k % 13 : Nat) : Int)
theorem Qd9 (X : List Rat) : ∀ n, -1 ≤ dgX X n
 | 0 => Int.le_refl _
 | n + 1 => by rw [dgX]; have := Qd9 X n; split <;> omega
theorem Zyt (X : List Rat) : ∀ n k, k < n → X.getD k 0 ≠ 0 → ((k / 13 + k % 13 : Nat) : Int) ≤ dgX X n
 | 0, k, h, _ => absurd h (Nat.not_lt_zero _)
 | n + 1, k, h, hz => by
  rw [dgX]
  by_cases e : k = n
  · subst e; rw [if_neg hz]; omega
  ·
   have := Zyt X n k oo hz
   split <;> omega
theorem Zqa (X : List Rat) : ∀ n, dgX X n = -1 ∨ ∃ k, k < n ∧ X.getD k 0 ≠ 0 ∧ dgX X n = ((k / 13 + k % 13 : Nat) : Int)
 | 0 => .inl rfl
 | n + 1 => by
  rw [dgX]
  by_cases hz : X.getD n 0 = 0
  ·
   rw [if_pos hz]
   rcases Zqa X n with h | ⟨k, h1, h2, h3⟩
   · exact .inl h
   · exact .inr ⟨k, oo, h2, h3⟩
  ·
   rw [if_neg hz]
   rcases Int.le_total (dgX X n) ((n / 13 + n % 13 : Nat) : Int) with h | h
   · exact .inr ⟨n, oo, hz, oo⟩
   ·
    rw [Int.max_eq_left h]
    rcases Zqa X n with h | ⟨k, h1, h2, h3⟩
    · exfalso; omega
    · exact .inr ⟨k, oo, h2, h3⟩
theorem Qcq {X : List Rat} (hX : X.length = 169) : dgX X 169 = Gl (norm (pol X)) := by
 have hN := Qr (pol X)
 have hc : ∀ t ∈ norm (pol X), ∃ k, k < 169 ∧ X.getD k 0 ≠ 0 ∧ k / 13 + k % 13 = t.i + t.j := fun t ht => by
  obtain ⟨hm, hne⟩ := Zay ht
  obtain ⟨u, hu, e1, e2⟩ := Zah hm
  obtain ⟨k, hk, rfl⟩ := Zip hu
  rw [hX] at hk
  have h1 := Zdd hN ht
  rw [Kq, e1, e2, Ziq (Nat.mod_lt _ dd), show 13 * (k / 13) + k % 13 = k by omega] at h1
  exact ⟨k, hk, by rw [h1]; exact hne, by simp only at e1 e2; omega⟩
 apply Int.le_antisymm
 ·
  rcases Zqa X 169 with h | ⟨k, h1, h2, h3⟩
  · rw [h]; exact Zcd _
  ·
   rw [h3]
   have e := Ziq (X := X) (i := k / 13) (j := k % 13) (Nat.mod_lt _ dd)
   rw [show 13 * (k / 13) + k % 13 = k by omega] at e
   obtain ⟨u, hu, u1, u2⟩ := Zh7 (l := pol X) (a := k / 13) (b := k % 13) (by rw [e]; exact h2)
   have := Zb3 hN hu
   rw [u1, u2] at this; exact this
 ·
  refine Zh5 (Qd9 X 169) (fun t ht => ?_)
  obtain ⟨k, h1, h2, h3⟩ := hc t ht
  have := Zyt X 169 k h1 h2
  rw [h3] at this; exact this
theorem Vis.coef {X : List Rat} {d j : Nat} {V : List Tm} (h : Vis X d j V) {t : Tm} (ht : t ∈ V) : t.c = X.getD (13 * t.i + t.j) 0 := by
 rw [← h.cf t.i t.j (by have := h.old t ht; omega)]; exact (Zdd h.nrm ht).symm
theorem Qat {X : List Rat} {d j K D : Nat} {V : List Tm} (hX : Tb D K X) (h : Vis X d j V) (hd : d ≤ 12) : ∀ t ∈ V, (Gj (ab t.c)).size ≤ 20 * K + 10 := fun t ht => by
 refine Zgl _ ?_
 have h1 := h.old t ht
 have h2 := hX.siz (k := 13 * t.i + t.j) oo
 rw [← h.coef ht] at h2
 obtain ⟨e1, e2⟩ := Zbn t.c
 unfold Qc Zat at *; rw [e1, e2]; exact h2
theorem C_fAbs (x : Rat) (a1 : Option Addr) (c1 : Nat) (a2 : Option Addr) (c2 : Nat) : Ys Tryz.prog 87 [fV x a1 c1 a2 c2] (fV (ab x) a1 c1 a2 c2) := by
 refine fn_intro func87 rfl ntmps87 nb ?_
 intro S w0 a hS h
 refine gC h (zS (zx rfl fun b1 => zz Zos fun b2 => zn (zs (zS (zd rfl mr isAgg56 sizeOf56 Zo ?_)))))
 refine zv [_] rfl call86 (Zcf x _ _ _ _) (zp (.lss rfl rfl) (zn ?_)); intro a w h
 refine cW ?_
 refine Zb h rfl (fun hc5 => ?_) (fun hc5 => ?_)
 ·
  skip
  have hs : x < 0 := (Zhu x).1 (of_decide_eq_true hc5)
  refine gC h (zS (zd rfl mr isAgg56 sizeOf56 Zo ?_))
  refine zv [_] rfl call126 (C_fNeg x a1 c1 a2 c2) ?_
  have hl7 := Zr1 x
  refine zt' rfl rfl Ja uu sizeOf56 rfl nb rfl ?_; intro a w h
  refine wpList_nil (wp_ret ?_)
  refine Jm h (Zc h rfl (.cell rfl mr isAgg56 sizeOf56 Zo)) ?_
  unfold ab; rw [if_pos hs]
 ·
  skip
  have hs : ¬ x < 0 := fun h => of_decide_eq_false hc5 ((Zhu x).2 h)
  refine gC h (zk (zS (zd rfl mr isAgg56 sizeOf56 Zo ?_)))
  refine zt' rfl rfl Ja uu sizeOf56 rfl nb rfl ?_; intro a w h
  refine wpList_nil (wp_ret ?_)
  refine Jm h (Zc h rfl (.cell rfl mr isAgg56 sizeOf56 Zo)) ?_
  unfold ab; rw [if_neg hs]
theorem Zu7 (a1 a2 : Option Addr) (c1 c2 : Nat) (x : Rat) (hx : Qc x ≤ 100000000000) : Vj Tryz.prog 56 [fV (ab x) a1 c1 a2 c2] [Row a1 (List.map Zv (dg x.num.natAbs)), Row a2 (List.map Zv (dg (x.den - 1)))] (.string (Gj (ab x))) := by
 obtain ⟨h1, h2⟩ := Zbn x
 have h := Zte a1 a2 c1 c2 (ab x) (by unfold Qc Zat at *; rw [h1, h2]; exact hx)
 have e1 : (ab x).num.natAbs = x.num.natAbs := by rw [h1]; rfl
 have e2 : Row a1 (List.map Zv (dg x.num.natAbs)) = Row a1 (List.map Zv (dg (ab x).num.natAbs)) := by rw [e1]
 have e3 : Row a2 (List.map Zv (dg (x.den - 1))) = Row a2 (List.map Zv (dg ((ab x).den - 1))) := by rw [h2]
 rw [e2, e3]; exact h
theorem Qha (x y : Int) (w : World) (ty : TypeId) (cs : Array Bool) : (Go.builtin .max #[3, 3] ty cs #[.int .i64 x, .int .i64 y]).run Tryz.prog w = .ok (.value (.int .i64 (max x y))) w := by
 simp [go_sem] <;> (try rw [Int.max_def]) <;> (try split) <;> (try split) <;> (try omega)
theorem Zzx (b1 : Nat) (la : List FT) (hla : la.length = 169) : Vj Tryz.prog 24 [.slice (some ⟨b1, 0, none⟩) 169 169] [Row (some ⟨b1, 0, none⟩) (cellsOf Jr la), AllF la] (.int .i64 (dgX (xs la) 169)) := by
 refine fn_intro func24 rfl ntmps24 nb ?_
 intro S w0 a hS h
 refine gC h (zS (za rfl (zn (zS (za rfl (zn (zs (zS (za rfl (zn (zb ?_))))))))))); clear h; intro a w h
 refine Zf (fun (k : Nat) a w => k ≤ 169 ∧ St 23 S w0 [(0, .slice (some ⟨b1, 0, none⟩) 169 169), (2, .int .i64 0), (3, .int .i64 (dgX (xs la) k)), (4, nI k)] [] [Row (some ⟨b1, 0, none⟩) (cellsOf Jr la), AllF la] a w) (fun k => 169 - k) 0 (⟨Nat.zero_le _, by exact (h).sub sA⟩) ?_; clear h
 rintro k a w ⟨hi_k, h⟩
 refine gC h (zs (zS (zm rfl (zp (.lss rfl rfl) (zn ?_))))); clear h; intro a w h
 refine cW ?_
 refine Zb h rfl (fun hc6 => ?_) (fun hc6 => ?_)
 ·
  skip
  have hlt_k : k < 169 := dT hc6
  have hnl := hla
  refine gC h (zk (zs (zb (zS (zm rfl (zm rfl (zp (.indexAddr rfl rfl (Gt _ _ _ _ _ oo)) (zD rfl mm (cells_lt (k := 3) dd (fun _ => rfl) la k oo) isAgg56 sizeOf56 (Zr (k := 3) (fun _ => rfl) ((fun _ => rfl)) la FT0 k oo) (.inl rfl) ?_))))))))
  refine zv [_] rfl call86 (Zcf ((la.getD k FT0).x) _ _ _ _) (zp (.neq rfl rfl) (zn ?_)); intro a w h
  refine cW ?_
  refine Zb h rfl (fun hc14 => ?_) (fun hc14 => ?_)
  ·
   skip
   have hnz : (xs la).getD k 0 ≠ 0 := fun e => by rw [← Yz] at e; rw [e] at hc14; exact absurd hc14 dd
   refine gC h (zr (zm rfl (zm rfl (zp (Pure1.cast (v' := .int .i64 (((k) / 13 : Nat) : Int)) (.binOp rfl rfl (fun _ => Vp _ _ _ _ _ dd)) (by rw [show (13 : Int) = ((13 : Nat) : Int) from rfl, Yh, wrap_i64 _ oo oo])) (zm rfl (zp (Pure1.cast (v' := .int .i64 (((k) % 13 : Nat) : Int)) (.binOp rfl rfl (fun _ => Vg _ _ _ _ _ dd)) (by rw [show (13 : Int) = ((13 : Nat) : Int) from rfl, Yg])) (zp (.pN (k / 13 + k % 13) (Pure1.cast (v' := (.int .i64 ((((k) / 13) + ((k) % 13) : Nat) : Int))) (.add rfl rfl) (by show Value.int _ _ = Value.int _ _; congr 1))) (zp (.builtin [_, _] rfl (fun w ty cs => Qha _ _ w ty cs)) (za rfl (zn (zr (zm rfl (zp (.pN (k + 1) (.add rfl rfl)) (za rfl (zn ?_))))))))))))))); clear h; intro a w h
   rw [show max (dgX (xs la) k) ((k / 13 + k % 13 : Nat) : Int) = dgX (xs la) (k + 1) from (if_neg hnz).symm] at h
   exact ⟨k + 1, ⟨oo, h.sub sA⟩, oo⟩
  ·
   skip
   have hnz : (xs la).getD k 0 = 0 := by rw [← Yz]; exact of_decide_eq_true (by rw [← Qan]; simpa using hc14)
   refine gC h (zk (zr (zm rfl (zp (.pN (k + 1) (.add rfl rfl)) (za rfl (zn ?_)))))); clear h; intro a w h
   rw [show dgX (xs la) k = dgX (xs la) (k + 1) from (if_pos hnz).symm] at h
   exact ⟨k + 1, ⟨oo, h.sub sA⟩, oo⟩
 ·
  skip
  have heq_k : 169 = k := dF hc6
  subst heq_k
  refine gC h (ze (zS (zm rfl (za rfl (zn (zt ?_)))))); clear h; intro a w h
  exact Zbw h
theorem Zc2 (s nm : ByteArray) (n : Nat) (hn : n ≤ 12) (hsz : s.size ≤ 1000000000000) (hnm : nm.size ≤ 1) : Ys Tryz.prog 88 [.string s, .string nm, .int .i64 ((n : Nat) : Int)] (.string (Zdo s nm n)) := by
 refine fn_intro func88 rfl ntmps88 nb ?_
 intro S w0 a hS h
 refine gC h (zS (za rfl (zn (zs (zS (zm rfl (zp (.eql rfl rfl) (zn ?_)))))))); clear h; intro a w h
 refine cW ?_
 refine Zb h rfl (fun hc8 => ?_) (fun hc8 => ?_)
 ·
  skip
  have h0 : n = 0 := Zbf hc8
  refine gC h (zS (zm rfl (za rfl (zn (zt ?_))))); clear h; intro a w h
  refine Jm h (Zc h rfl (.tmp rfl)) ?_
  refine congrArg Value.string ?_
  unfold Zdo; first | (rw [if_pos h0]; done) | (rw [if_neg h0, if_pos h1, if_pos hs]; done) | (rw [if_neg h0, if_pos h1, if_neg hs]; done) | (rw [if_neg h0, if_neg h1, if_pos h2, if_pos hs]; done) | (rw [if_neg h0, if_neg h1, if_pos h2, if_neg hs]; done) | (rw [if_neg h0, if_neg h1, if_neg h2, if_pos hs]; done) | (rw [if_neg h0, if_neg h1, if_neg h2, if_neg hs]; done)
 ·
  skip
  have h0 : ¬ n = 0 := Zaw hc8
  refine gC h (zk (zs (zS (zm rfl (zp (.binOp rfl rfl (fun _ => Kn _ _ _ _ _)) (zn ?_)))))); clear h; intro a w h
  refine cW ?_
  refine Zb h rfl (fun hc11 => ?_) (fun hc11 => ?_)
  focus
   have hs : ¬ s = ⟨#[]⟩ := by simpa using hc11
   refine gC h (zr (zm rfl (zp (.binOp rfl rfl (fun _ => Je _ _ _ _ _ (by have e1 : (ByteArray.mk #[42]).size = 1 := rfl; have e2 : (ByteArray.mk #[94]).size = 1 := rfl; have e3 : (ByteArray.mk #[94, 49]).size = 2 := rfl; have e4 : ∀ b : UInt8, (ByteArray.mk #[b]).size = 1 := fun _ => rfl; (try simp only [ByteArray.size_append, e1, e2, e3, e4]); omega))) (za rfl (zn (zS (zm rfl (zm rfl (zp (.binOp rfl rfl (fun _ => Je _ _ _ _ _ (by have e1 : (ByteArray.mk #[42]).size = 1 := rfl; have e2 : (ByteArray.mk #[94]).size = 1 := rfl; have e3 : (ByteArray.mk #[94, 49]).size = 2 := rfl; have e4 : ∀ b : UInt8, (ByteArray.mk #[b]).size = 1 := fun _ => rfl; (try simp only [ByteArray.size_append, e1, e2, e3, e4]); omega))) (za rfl (zn (zs (zS (zm rfl (zp (.geq rfl rfl) (zn ?_)))))))))))))))); clear h; intro a w h
  rotate_left
  focus
   have hs : s = ⟨#[]⟩ := by simpa using hc11
   refine gC h (zk (zS (zm rfl (zm rfl (zp (.binOp rfl rfl (fun _ => Je _ _ _ _ _ (by have e1 : (ByteArray.mk #[42]).size = 1 := rfl; have e2 : (ByteArray.mk #[94]).size = 1 := rfl; have e3 : (ByteArray.mk #[94, 49]).size = 2 := rfl; have e4 : ∀ b : UInt8, (ByteArray.mk #[b]).size = 1 := fun _ => rfl; (try simp only [ByteArray.size_append, e1, e2, e3, e4]); omega))) (za rfl (zn (zs (zS (zm rfl (zp (.geq rfl rfl) (zn ?_)))))))))))); clear h; intro a w h
  all_goals
   refine cW ?_
   refine Zb h rfl (fun hc18 => ?_) (fun hc18 => ?_)
   focus
    have h1 : 10 ≤ n := dT hc18
    refine gC h (zS (zm rfl (zp (.binOp rfl rfl (fun _ => Je _ _ _ _ _ (by have e1 : (ByteArray.mk #[42]).size = 1 := rfl; have e2 : (ByteArray.mk #[94]).size = 1 := rfl; have e3 : (ByteArray.mk #[94, 49]).size = 2 := rfl; have e4 : ∀ b : UInt8, (ByteArray.mk #[b]).size = 1 := fun _ => rfl; (try simp only [ByteArray.size_append, e1, e2, e3, e4]); omega))) (zm rfl (zp (.pN (48 + n) (Pure1.cast (v' := (.int .i64 ((48 + n : Nat) : Int))) (.add rfl rfl) (by show Value.int _ _ = Value.int _ _; congr 1))) (zp (.pO (48 + n - 10) (.sub rfl rfl)) (zp (.convert rfl (Zqd _ (wrap_u8 _ oo oo))) (zp (.convert rfl (Zqb _ oo)) (zp (.binOp rfl rfl (fun _ => Je _ _ _ _ _ (by have e1 : (ByteArray.mk #[42]).size = 1 := rfl; have e2 : (ByteArray.mk #[94]).size = 1 := rfl; have e3 : (ByteArray.mk #[94, 49]).size = 2 := rfl; have e4 : ∀ b : UInt8, (ByteArray.mk #[b]).size = 1 := fun _ => rfl; (try simp only [ByteArray.size_append, e1, e2, e3, e4]); omega))) (za rfl (zn (zt ?_)))))))))))); clear h; intro a w h
   rotate_left
   focus
    have h1 : ¬ 10 ≤ n := dF hc18
    refine gC h (zk (zs (zS (zm rfl (zp (.gtr rfl rfl) (zn ?_)))))); clear h; intro a w h
    refine cW ?_
    refine Zb h rfl (fun hc28 => ?_) (fun hc28 => ?_)
    focus
     have h2 : 1 < n := dT hc28
     refine gC h (zS (zm rfl (zp (.binOp rfl rfl (fun _ => Je _ _ _ _ _ (by have e1 : (ByteArray.mk #[42]).size = 1 := rfl; have e2 : (ByteArray.mk #[94]).size = 1 := rfl; have e3 : (ByteArray.mk #[94, 49]).size = 2 := rfl; have e4 : ∀ b : UInt8, (ByteArray.mk #[b]).size = 1 := fun _ => rfl; (try simp only [ByteArray.size_append, e1, e2, e3, e4]); omega))) (zm rfl (zp (.pN (48 + n) (Pure1.cast (v' := (.int .i64 ((48 + n : Nat) : Int))) (.add rfl rfl) (by show Value.int _ _ = Value.int _ _; congr 1))) (zp (.convert rfl (Zqd _ (wrap_u8 _ oo oo))) (zp (.convert rfl (Zqb _ oo)) (zp (.binOp rfl rfl (fun _ => Je _ _ _ _ _ (by have e1 : (ByteArray.mk #[42]).size = 1 := rfl; have e2 : (ByteArray.mk #[94]).size = 1 := rfl; have e3 : (ByteArray.mk #[94, 49]).size = 2 := rfl; have e4 : ∀ b : UInt8, (ByteArray.mk #[b]).size = 1 := fun _ => rfl; (try simp only [ByteArray.size_append, e1, e2, e3, e4]); omega))) (za rfl (zn (zt ?_))))))))))); clear h; intro a w h
    rotate_left
    focus
     have h2 : ¬ 1 < n := dF hc28
     refine gC h (zk (zS (zm rfl (za rfl (zn (zt ?_)))))); clear h; intro a w h
   all_goals
    refine Jm h (Zc h rfl (.tmp rfl)) ?_
    refine congrArg Value.string ?_
    unfold Zdo; first | (rw [if_pos h0]; done) | (rw [if_neg h0, if_pos h1, if_pos hs]; done) | (rw [if_neg h0, if_pos h1, if_neg hs]; done) | (rw [if_neg h0, if_neg h1, if_pos h2, if_pos hs]; done) | (rw [if_neg h0, if_neg h1, if_pos h2, if_neg hs]; done) | (rw [if_neg h0, if_neg h1, if_neg h2, if_pos hs]; done) | (rw [if_neg h0, if_neg h1, if_neg h2, if_neg hs]; done)
theorem Zzr (b1 : Nat) (la : List FT) (K : Nat) (ha : Tb 12 K (xs la)) (hK : K ≤ 1000000) : Vj Tryz.prog 22 [.slice (some ⟨b1, 0, none⟩) 169 169] [Row (some ⟨b1, 0, none⟩) (cellsOf Jr la), AllF la] (.string (Zkc Gj (norm (pol (xs la))))) := by
 refine fn_intro func22 rfl ntmps22 nb ?_
 intro S w0 a hS h
 refine gC h (zS (za rfl (zn (zS (za rfl (zn (zs (zS (za rfl (zn (zb ?_))))))))))); clear h; intro a w h
 refine Zf (fun (d : Nat) a w => d ≤ 13 ∧ ∃ V, (Vis (xs la) d 0 V) ∧ St 76 S w0 [(0, .slice (some ⟨b1, 0, none⟩) 169 169), (2, .string (⟨#[]⟩)), (3, .string (fuA V)), (4, nI d)] [] [Row (some ⟨b1, 0, none⟩) (cellsOf Jr la), AllF la] a w) (fun d => 13 - d) 0 (⟨Nat.zero_le _, [], Vis.zero _, by rw [show fuA [] = ⟨#[]⟩ from rfl]; exact (h).sub sA⟩) ?_; clear h
 rintro d a w ⟨hi_d, V, hvis0, h⟩
 refine gC h (zs (zS (zm rfl (zp (.lss rfl rfl) (zn ?_))))); clear h; intro a w h
 refine cW ?_
 refine Zb h rfl (fun hc10 => ?_) (fun hc10 => ?_)
 ·
  skip
  have hlt_d : d < 13 := dT hc10
  refine gC h (zk (zs (zb (zS (za rfl (zn (zb ?_))))))); clear h; intro a w h
  refine Zf (fun (j : Nat) a w => j ≤ (d + 1) ∧ ∃ V2, (Vis (xs la) d j V2) ∧ St 76 S w0 [(0, .slice (some ⟨b1, 0, none⟩) 169 169), (2, .string (⟨#[]⟩)), (3, .string (fuA V2)), (4, nI d), (5, nI j)] [] [Row (some ⟨b1, 0, none⟩) (cellsOf Jr la), AllF la] a w) (fun j => (d + 1) - j) 0 (⟨Nat.zero_le _, V, hvis0, by exact (h).sub sA⟩) ?_; clear h
  rintro j a w ⟨hi_j, V2, hvis, h⟩
  refine gC h (zs (zS (zm rfl (zm rfl (zp (.leq rfl rfl) (zn ?_)))))); clear h; intro a w h
  refine cW ?_
  refine Zb h rfl (fun hc15 => ?_) (fun hc15 => ?_)
  ·
   skip
   have hlt_j : j < (d + 1) := dT hc15
   have hzl := ha.sizl (k := (13 * (d - j) + j)) oo
   have hnl := ha.lenl
   have hold : ∀ t ∈ V2, t.i < 13 ∧ t.j < 13 := fun t ht => by have := hvis.old t ht; omega
   have hvl : V2.length ≤ 91 := Nat.le_trans (Zk9 hvis.nrm (d := 12) (fun t ht => by have := hvis.old t ht; omega)) dd
   have hfs : (fuA V2).size ≤ 91 * (20 * K + 23) := Nat.le_trans (Qcc (M := 20 * K + 10) (fun t ht => ⟨(hold t ht).1, (hold t ht).2, Qat ha hvis oo t ht⟩)) (Nat.mul_le_mul_right _ hvl)
   replace h := h.derive (R := Row (la.getD ((13 * (d - j) + j)) FT0).a2 (List.map Zv (dg ((la.getD ((13 * (d - j) + j)) FT0).x.den - 1)))) (fun X hX => AllF.g2 (hX _ mm) ((13 * (d - j) + j)))
   replace h := h.derive (R := Row (la.getD ((13 * (d - j) + j)) FT0).a1 (List.map Zv (dg (la.getD ((13 * (d - j) + j)) FT0).x.num.natAbs))) (fun X hX => AllF.g1 (hX _ mm) ((13 * (d - j) + j)))
   refine gC h (zk (zs (zb (zS (zm rfl (zm rfl (zm rfl (zp (.pO (d - j) (.sub rfl rfl)) (zp (.pN (13 * (d - j)) (.mul rfl rfl)) (zm rfl (zp (.pN ((13 * (d - j)) + j) (.add rfl rfl)) (zp (.indexAddr rfl rfl (Gt _ _ _ _ _ oo)) (zD rfl mm (cells_lt (k := 3) dd (fun _ => rfl) la ((13 * (d - j)) + j) oo) isAgg56 sizeOf56 (Zr (k := 3) (fun _ => rfl) ((fun _ => rfl)) la FT0 ((13 * (d - j)) + j) oo) (.inl rfl) ?_)))))))))))))
   refine zz Zos fun b6 => zt' rfl rfl Ja uu sizeOf56 rfl nb rfl ?_
   refine zn (zs (zS (zd rfl mr isAgg56 sizeOf56 Zo ?_)))
   refine zv [_] rfl call86 (Zcf ((la.getD ((13 * (d - j)) + j) FT0).x) _ _ _ _) (zp (.eql rfl rfl) ?_); intro a w h
   refine Zg h (fun hc29 h => ?_) (fun hc29 h => ?_)
   ·
    skip
    have hz : (xs la).getD (13 * (d - j) + j) 0 = 0 := by rw [← Yz]; rw [Qan] at hc29; exact of_decide_eq_true hc29
    refine wpList_nil ?_
    refine cW ?_
    refine Zq h rfl ?_
    refine gC h (ze (zr (zm rfl (zp (.pN (j + 1) (.add rfl rfl)) (za rfl (zn ?_)))))); clear h; intro a w h
    skip
    exact ⟨j + 1, ⟨oo, V2, hvis.skip oo hz, by exact ((h.drop sl).factsSub (by simp)).sub sA⟩, oo⟩
   ·
    skip
    have hnz : (xs la).getD (13 * (d - j) + j) 0 ≠ 0 := by rw [← Yz]; rw [Qan] at hc29; exact of_decide_eq_false hc29
    refine wpList_nil ?_
    refine cW ?_
    refine Zj h rfl ?_
    refine gC h (zk (zS (zd rfl mr isAgg56 sizeOf56 Zo ?_)))
    refine zv [_] rfl call87 (C_fAbs ((la.getD (13 * (d - j) + j) FT0).x) _ _ _ _) (zw [_] rfl call56 (Zu7 _ _ _ _ ((la.getD (13 * (d - j) + j) FT0).x) oo) ?_)
    have htq := Zgl (ab ((la.getD (13 * (d - j) + j) FT0).x)) (K := K) (by have h9 := ha.sizl (k := (13 * (d - j) + j)) oo; obtain ⟨e1, e2⟩ := Zbn ((la.getD (13 * (d - j) + j) FT0).x); unfold Qc Zat at *; rw [e1, e2]; exact h9)
    have hrs := Zwr (⟨d - j, j, (la.getD (13 * (d - j) + j) FT0).x⟩ : Tm) htq
    refine za rfl (zn (zs (zS (zm rfl (zp (.binOp rfl rfl (fun _ => Xf _ _ _ _ _)) ?_))))); intro a w h
    refine Zg h (fun hc34 h => ?_) (fun hc34 h => ?_)
    focus
     have hs34 : Gj (ab ((la.getD (13 * (d - j) + j) FT0).x)) = ⟨#[49]⟩ := of_decide_eq_true hc34
     refine gL h (zm rfl (zq 35 rfl rfl (.move rfl) (zq 35 rfl rfl (.gtr rfl rfl) ?_))); clear h; intro a w h
     refine Zg h (fun hc37 h => ?_) (fun hc37 h => ?_)
     focus
      have hd37 : 0 < d := dT hc37
      refine gL h (zp (.pickT rfl rfl) (zn ?_)); clear h; intro a w h
      refine cW ?_
      refine Zq h rfl ?_
      refine gC h (zr (za rfl (zn (zS (zm rfl (zm rfl (zm rfl (zp (.pO (d - j) (.sub rfl rfl)) (zv [_, _, _] rfl call88 (Zc2 (⟨#[]⟩) ⟨#[120]⟩ (d - j) oo (by first | omega | exact Nat.zero_le _) (Nat.le_refl _)) (zm rfl (zv [_, _, _] rfl call88 (Zc2 (Zdo (⟨#[]⟩) ⟨#[120]⟩ (d - j)) ⟨#[121]⟩ j oo (by have h9 := Zcq (⟨#[]⟩) ⟨#[120]⟩ (d - j) (Nat.le_refl _); first | omega | (have h8 : (ByteArray.mk #[]).size = 0 := rfl; omega)) (Nat.le_refl _)) ?_))))))))))); clear h; intro a w h
      have hSt : (if Gj (ab (⟨d - j, j, (la.getD (13 * (d - j) + j) FT0).x⟩ : Tm).c) = ⟨#[49]⟩ ∧ (⟨d - j, j, (la.getD (13 * (d - j) + j) FT0).x⟩ : Tm).i + (⟨d - j, j, (la.getD (13 * (d - j) + j) FT0).x⟩ : Tm).j > 0 then ⟨#[]⟩ else Gj (ab (⟨d - j, j, (la.getD (13 * (d - j) + j) FT0).x⟩ : Tm).c)) = ⟨#[]⟩ := by first | exact if_pos ⟨hs34, by show 0 < d - j + j; omega⟩ | exact if_neg (fun hh => hs34 hh.1) | exact if_neg (fun hh => by have h7 : d - j + j > 0 := hh.2; omega)
      have hr : Zdo (Zdo (⟨#[]⟩) ⟨#[120]⟩ (d - j)) ⟨#[121]⟩ j = rT (⟨d - j, j, (la.getD (13 * (d - j) + j) FT0).x⟩ : Tm) := by unfold rT; rw [hSt]
     rotate_left
     focus
      have hd37 : ¬ 0 < d := dF hc37
      refine gL h (zp (.pickT rfl rfl) (zn ?_)); clear h; intro a w h
      refine cW ?_
      refine Zj h rfl ?_
      refine gC h (zk (zS (zm rfl (zm rfl (zm rfl (zp (.pO (d - j) (.sub rfl rfl)) (zv [_, _, _] rfl call88 (Zc2 (Gj (ab ((la.getD (13 * (d - j) + j) FT0).x))) ⟨#[120]⟩ (d - j) oo (by first | omega | exact Nat.zero_le _) (Nat.le_refl _)) (zm rfl (zv [_, _, _] rfl call88 (Zc2 (Zdo (Gj (ab ((la.getD (13 * (d - j) + j) FT0).x))) ⟨#[120]⟩ (d - j)) ⟨#[121]⟩ j oo (by have h9 := Zcq (Gj (ab ((la.getD (13 * (d - j) + j) FT0).x))) ⟨#[120]⟩ (d - j) (Nat.le_refl _); first | omega | (have h8 : (ByteArray.mk #[]).size = 0 := rfl; omega)) (Nat.le_refl _)) ?_))))))))); clear h; intro a w h
      have hSt : (if Gj (ab (⟨d - j, j, (la.getD (13 * (d - j) + j) FT0).x⟩ : Tm).c) = ⟨#[49]⟩ ∧ (⟨d - j, j, (la.getD (13 * (d - j) + j) FT0).x⟩ : Tm).i + (⟨d - j, j, (la.getD (13 * (d - j) + j) FT0).x⟩ : Tm).j > 0 then ⟨#[]⟩ else Gj (ab (⟨d - j, j, (la.getD (13 * (d - j) + j) FT0).x⟩ : Tm).c)) = Gj (ab ((la.getD (13 * (d - j) + j) FT0).x)) := by first | exact if_pos ⟨hs34, by show 0 < d - j + j; omega⟩ | exact if_neg (fun hh => hs34 hh.1) | exact if_neg (fun hh => by have h7 : d - j + j > 0 := hh.2; omega)
      have hr : Zdo (Zdo (Gj (ab ((la.getD (13 * (d - j) + j) FT0).x))) ⟨#[120]⟩ (d - j)) ⟨#[121]⟩ j = rT (⟨d - j, j, (la.getD (13 * (d - j) + j) FT0).x⟩ : Tm) := by unfold rT; rw [hSt]
    rotate_left 2
    focus
     have hs34 : ¬ Gj (ab ((la.getD (13 * (d - j) + j) FT0).x)) = ⟨#[49]⟩ := of_decide_eq_false hc34
     refine gL h (zm rfl (zo 35 rfl rfl rfl (zo 35 rfl rfl rfl (zp (.pickF rfl rfl) (zn ?_))))); clear h; intro a w h
     refine cW ?_
     refine Zj h rfl ?_
     refine gC h (zk (zS (zm rfl (zm rfl (zm rfl (zp (.pO (d - j) (.sub rfl rfl)) (zv [_, _, _] rfl call88 (Zc2 (Gj (ab ((la.getD (13 * (d - j) + j) FT0).x))) ⟨#[120]⟩ (d - j) oo (by first | omega | exact Nat.zero_le _) (Nat.le_refl _)) (zm rfl (zv [_, _, _] rfl call88 (Zc2 (Zdo (Gj (ab ((la.getD (13 * (d - j) + j) FT0).x))) ⟨#[120]⟩ (d - j)) ⟨#[121]⟩ j oo (by have h9 := Zcq (Gj (ab ((la.getD (13 * (d - j) + j) FT0).x))) ⟨#[120]⟩ (d - j) (Nat.le_refl _); first | omega | (have h8 : (ByteArray.mk #[]).size = 0 := rfl; omega)) (Nat.le_refl _)) ?_))))))))); clear h; intro a w h
     have hSt : (if Gj (ab (⟨d - j, j, (la.getD (13 * (d - j) + j) FT0).x⟩ : Tm).c) = ⟨#[49]⟩ ∧ (⟨d - j, j, (la.getD (13 * (d - j) + j) FT0).x⟩ : Tm).i + (⟨d - j, j, (la.getD (13 * (d - j) + j) FT0).x⟩ : Tm).j > 0 then ⟨#[]⟩ else Gj (ab (⟨d - j, j, (la.getD (13 * (d - j) + j) FT0).x⟩ : Tm).c)) = Gj (ab ((la.getD (13 * (d - j) + j) FT0).x)) := by first | exact if_pos ⟨hs34, by show 0 < d - j + j; omega⟩ | exact if_neg (fun hh => hs34 hh.1) | exact if_neg (fun hh => by have h7 : d - j + j > 0 := hh.2; omega)
     have hr : Zdo (Zdo (Gj (ab ((la.getD (13 * (d - j) + j) FT0).x))) ⟨#[120]⟩ (d - j)) ⟨#[121]⟩ j = rT (⟨d - j, j, (la.getD (13 * (d - j) + j) FT0).x⟩ : Tm) := by unfold rT; rw [hSt]
    all_goals
     rw [hr] at h
     refine gL h (za rfl (zn (zS (zd rfl mr isAgg56 sizeOf56 Zo ?_))))
     refine zv [_] rfl call86 (Zcf ((la.getD ((13 * (d - j)) + j) FT0).x) _ _ _ _) (zp (.lss rfl rfl) (za rfl (zn (zs (zb (zS (zm rfl (zp (.binOp rfl rfl (fun _ => Xf _ _ _ _ _)) ?_)))))))); intro a w h
     refine Zg h (fun hc51 h => ?_) (fun hc51 h => ?_)
     focus
      have hs51 : fuA V2 = ⟨#[]⟩ := of_decide_eq_true hc51
      refine gL h (zm rfl (zq 52 rfl rfl (.move rfl) (zp (.pickT rfl rfl) (za rfl (zn ?_))))); clear h; intro a w h
      refine cW ?_
      refine Zb h rfl (fun hc49 => ?_) (fun hc49 => ?_)
      focus
       have hsg : ((la.getD (13 * (d - j) + j) FT0).x).num.sign < 0 := of_decide_eq_true hc49
       refine gC h (zr (zm rfl (zp (.binOp rfl rfl (fun _ => Je _ _ _ _ _ (by have e1 : (ByteArray.mk #[45]).size = 1 := rfl; have e3 : (ByteArray.mk #[32, 45, 32]).size = 3 := rfl; have e4 : (ByteArray.mk #[32, 43, 32]).size = 3 := rfl; (try simp only [ByteArray.size_append, e1, e3, e4]); omega))) (za rfl (zn (zr (zm rfl (zm rfl (zp (.binOp rfl rfl (fun _ => Je _ _ _ _ _ (by have e1 : (ByteArray.mk #[45]).size = 1 := rfl; have e3 : (ByteArray.mk #[32, 45, 32]).size = 3 := rfl; have e4 : (ByteArray.mk #[32, 43, 32]).size = 3 := rfl; (try simp only [ByteArray.size_append, e1, e3, e4]); omega))) (za rfl (zn (zr (zm rfl (zp (.pN (j + 1) (.add rfl rfl)) (za rfl (zn ?_)))))))))))))))); clear h; intro a w h
       have hV0 : V2 = [] := (Zlq hold).1 hs51
       have hst : fuA V2 ++ ((⟨#[45]⟩) ++ (rT (⟨d - j, j, (la.getD (13 * (d - j) + j) FT0).x⟩ : Tm))) = fuA (V2 ++ [(⟨d - j, j, (la.getD (13 * (d - j) + j) FT0).x⟩ : Tm)]) := by
        have h9 := Zns (t := (⟨d - j, j, (la.getD (13 * (d - j) + j) FT0).x⟩ : Tm)) (by simp only; omega) (by simp only; omega) (((⟨#[45]⟩) ++ (rT (⟨d - j, j, (la.getD (13 * (d - j) + j) FT0).x⟩ : Tm)))) (by first | exact (if_pos hsg).symm | exact (if_neg hsg).symm)
        rw [hV0]; exact h9
      rotate_left
      focus
       have hsg : ¬ ((la.getD (13 * (d - j) + j) FT0).x).num.sign < 0 := of_decide_eq_false hc49
       refine gC h (zS (zm rfl (zp (.binOp rfl rfl (fun _ => Kn _ _ _ _ _)) ?_))); clear h; intro a w h
       refine Zg h (fun hc59 h => (by exfalso; have h8 : ¬ fuA V2 = ⟨#[]⟩ := (by simpa using hc59); exact h8 hs51)) (fun hc59 h => ?_)
       refine gL h (zm rfl (zo 60 rfl rfl rfl (zp (.pickF rfl rfl) (za rfl (zn ?_))))); clear h; intro a w h
       refine cW ?_
       refine Zj h rfl ?_
       refine gC h (zS (zm rfl (zp (.binOp rfl rfl (fun _ => Kn _ _ _ _ _)) ?_))); clear h; intro a w h
       refine Zg h (fun hc67 h => (by exfalso; have h8 : ¬ fuA V2 = ⟨#[]⟩ := (by simpa using hc67); exact h8 hs51)) (fun hc67 h => ?_)
       refine gL h (za rfl (zn ?_)); clear h; intro a w h
       refine cW ?_
       refine Zj h rfl ?_
       refine gC h (zk (zr (zm rfl (zm rfl (zp (.binOp rfl rfl (fun _ => Je _ _ _ _ _ (by have e1 : (ByteArray.mk #[45]).size = 1 := rfl; have e3 : (ByteArray.mk #[32, 45, 32]).size = 3 := rfl; have e4 : (ByteArray.mk #[32, 43, 32]).size = 3 := rfl; (try simp only [ByteArray.size_append, e1, e3, e4]); omega))) (za rfl (zn (zr (zm rfl (zp (.pN (j + 1) (.add rfl rfl)) (za rfl (zn ?_)))))))))))); clear h; intro a w h
       have hV0 : V2 = [] := (Zlq hold).1 hs51
       have hst : fuA V2 ++ (rT (⟨d - j, j, (la.getD (13 * (d - j) + j) FT0).x⟩ : Tm)) = fuA (V2 ++ [(⟨d - j, j, (la.getD (13 * (d - j) + j) FT0).x⟩ : Tm)]) := by
        have h9 := Zns (t := (⟨d - j, j, (la.getD (13 * (d - j) + j) FT0).x⟩ : Tm)) (by simp only; omega) (by simp only; omega) ((rT (⟨d - j, j, (la.getD (13 * (d - j) + j) FT0).x⟩ : Tm))) (by first | exact (if_pos hsg).symm | exact (if_neg hsg).symm)
        rw [hV0]; exact h9
     rotate_left 2
     focus
      have hs51 : ¬ fuA V2 = ⟨#[]⟩ := of_decide_eq_false hc51
      refine gL h (zm rfl (zo 52 rfl rfl rfl (zp (.pickF rfl rfl) (za rfl (zn ?_))))); clear h; intro a w h
      refine cW ?_
      refine Zj h rfl ?_
      refine gC h (zS (zm rfl (zp (.binOp rfl rfl (fun _ => Kn _ _ _ _ _)) ?_))); clear h; intro a w h
      refine Zg h (fun hc59 h => ?_) (fun hc59 h => (by exfalso; have h8 : fuA V2 = ⟨#[]⟩ := (by simpa using hc59); exact hs51 h8))
      refine gL h (zm rfl (zq 60 rfl rfl (.move rfl) (zp (.pickT rfl rfl) (za rfl (zn ?_))))); clear h; intro a w h
      refine cW ?_
      refine Zb h rfl (fun hc57 => ?_) (fun hc57 => ?_)
      focus
       have hsg : ((la.getD (13 * (d - j) + j) FT0).x).num.sign < 0 := of_decide_eq_true hc57
       refine gC h (zr (zm rfl (zp (.binOp rfl rfl (fun _ => Je _ _ _ _ _ (by have e1 : (ByteArray.mk #[45]).size = 1 := rfl; have e3 : (ByteArray.mk #[32, 45, 32]).size = 3 := rfl; have e4 : (ByteArray.mk #[32, 43, 32]).size = 3 := rfl; (try simp only [ByteArray.size_append, e1, e3, e4]); omega))) (za rfl (zn (zr (zm rfl (zm rfl (zp (.binOp rfl rfl (fun _ => Je _ _ _ _ _ (by have e1 : (ByteArray.mk #[45]).size = 1 := rfl; have e3 : (ByteArray.mk #[32, 45, 32]).size = 3 := rfl; have e4 : (ByteArray.mk #[32, 43, 32]).size = 3 := rfl; (try simp only [ByteArray.size_append, e1, e3, e4]); omega))) (za rfl (zn (zr (zm rfl (zp (.pN (j + 1) (.add rfl rfl)) (za rfl (zn ?_)))))))))))))))); clear h; intro a w h
       have hV0 : V2 ≠ [] := fun e9 => hs51 ((Zlq hold).2 e9)
       have hst : fuA V2 ++ ((⟨#[32, 45, 32]⟩) ++ (rT (⟨d - j, j, (la.getD (13 * (d - j) + j) FT0).x⟩ : Tm))) = fuA (V2 ++ [(⟨d - j, j, (la.getD (13 * (d - j) + j) FT0).x⟩ : Tm)]) := Zsg (t := (⟨d - j, j, (la.getD (13 * (d - j) + j) FT0).x⟩ : Tm)) (by simp only; omega) (by simp only; omega) hV0 (((⟨#[32, 45, 32]⟩) ++ (rT (⟨d - j, j, (la.getD (13 * (d - j) + j) FT0).x⟩ : Tm)))) (by first | exact (if_pos hsg).symm | exact (if_neg hsg).symm)
      rotate_left
      focus
       have hsg : ¬ ((la.getD (13 * (d - j) + j) FT0).x).num.sign < 0 := of_decide_eq_false hc57
       refine gC h (zS (zm rfl (zp (.binOp rfl rfl (fun _ => Kn _ _ _ _ _)) ?_))); clear h; intro a w h
       refine Zg h (fun hc67 h => ?_) (fun hc67 h => (by exfalso; have h8 : fuA V2 = ⟨#[]⟩ := (by simpa using hc67); exact hs51 h8))
       refine gL h (za rfl (zn ?_)); clear h; intro a w h
       refine cW ?_
       refine Zq h rfl ?_
       refine gC h (zr (zm rfl (zp (.binOp rfl rfl (fun _ => Je _ _ _ _ _ (by have e1 : (ByteArray.mk #[45]).size = 1 := rfl; have e3 : (ByteArray.mk #[32, 45, 32]).size = 3 := rfl; have e4 : (ByteArray.mk #[32, 43, 32]).size = 3 := rfl; (try simp only [ByteArray.size_append, e1, e3, e4]); omega))) (za rfl (zn (zr (zm rfl (zm rfl (zp (.binOp rfl rfl (fun _ => Je _ _ _ _ _ (by have e1 : (ByteArray.mk #[45]).size = 1 := rfl; have e3 : (ByteArray.mk #[32, 45, 32]).size = 3 := rfl; have e4 : (ByteArray.mk #[32, 43, 32]).size = 3 := rfl; (try simp only [ByteArray.size_append, e1, e3, e4]); omega))) (za rfl (zn (zr (zm rfl (zp (.pN (j + 1) (.add rfl rfl)) (za rfl (zn ?_)))))))))))))))); clear h; intro a w h
       have hV0 : V2 ≠ [] := fun e9 => hs51 ((Zlq hold).2 e9)
       have hst : fuA V2 ++ ((⟨#[32, 43, 32]⟩) ++ (rT (⟨d - j, j, (la.getD (13 * (d - j) + j) FT0).x⟩ : Tm))) = fuA (V2 ++ [(⟨d - j, j, (la.getD (13 * (d - j) + j) FT0).x⟩ : Tm)]) := Zsg (t := (⟨d - j, j, (la.getD (13 * (d - j) + j) FT0).x⟩ : Tm)) (by simp only; omega) (by simp only; omega) hV0 (((⟨#[32, 43, 32]⟩) ++ (rT (⟨d - j, j, (la.getD (13 * (d - j) + j) FT0).x⟩ : Tm)))) (by first | exact (if_pos hsg).symm | exact (if_neg hsg).symm)
     all_goals
      rw [hst] at h
      exact ⟨j + 1, ⟨oo, V2 ++ [(⟨d - j, j, (la.getD (13 * (d - j) + j) FT0).x⟩ : Tm)], by have h9 := hvis.step oo hnz; rw [← Yz] at h9; exact h9, by exact ((h.drop sl).factsSub (by simp)).sub sA⟩, oo⟩
  ·
   skip
   have heq_j : (d + 1) = j := dF hc15
   subst heq_j
   refine gC h (ze (zr (zm rfl (zp (.pN (d + 1) (.add rfl rfl)) (za rfl (zn ?_)))))); clear h; intro a w h
   exact ⟨d + 1, ⟨oo, V2, hvis.row, by exact h.sub sA⟩, oo⟩
 ·
  skip
  have heq_d : 13 = d := dF hc10
  subst heq_d
  refine gC h (ze (zs (zS (zm rfl (zp (.binOp rfl rfl (fun _ => Xf _ _ _ _ _)) (zn ?_)))))); clear h; intro a w h
  refine cW ?_
  refine Zb h rfl (fun hc74 => ?_) (fun hc74 => ?_)
  ·
   skip
   have hs74 : fuA V = ⟨#[]⟩ := of_decide_eq_true hc74
   refine gC h (zS (za rfl (zn (zt ?_)))); clear h; intro a w h
   refine Jm h (Zc h rfl (.tmp rfl)) ?_
   rw [← hvis0.all ha, Zqy, if_pos hs74]
  ·
   skip
   have hs74 : ¬ fuA V = ⟨#[]⟩ := of_decide_eq_false hc74
   refine gC h (zk (zS (zm rfl (za rfl (zn (zt ?_)))))); clear h; intro a w h
   refine Jm h (Zc h rfl (.tmp rfl)) ?_
   rw [← hvis0.all ha, Zqy, if_neg hs74]
end
section
def tzz (t : Ti) : Tz := ⟨t.i, t.j, qv t.n t.d⟩
theorem may_er (t : Ti) : Zj2 (tzz t) = er3 (tzI t) := by
 unfold Zj2 er3 tzz tzI
 dsimp only
 by_cases h1 : t.i < 0 ∨ t.j < 0
 · rw [if_pos h1, if_pos h1]
 ·
  rw [if_neg h1, if_neg h1]
  by_cases h2 : t.i > 12 ∨ t.j > 12 - t.i
  · rw [if_pos h2, if_pos oo]
  · rw [if_neg h2, if_neg oo]
theorem Qgj : ∀ l : List Ti, Zx (l.map tzz) = erT (l.map tzI)
 | [] => rfl
 | t :: l => by rw [List.map_cons, List.map_cons, Zx, erT, may_er, Qgj l]
theorem tm_er (l : List Ti) : (l.map tzI).map tm3 = (l.map tzz).map tmZ := by rw [List.map_map, List.map_map]; rfl
theorem Zwn {l : List Ti} {Z : List Tz} (hZ : l.map tzz = Z) {lo : List FT} (h : Eqv (pol (xs lo)) (if erT (l.map tzI) = 0 then (l.map tzI).map tm3 else [])) : Eqv (pol (xs lo)) (npZ Z) := by
 rw [← Qgj, tm_er, hZ] at h
 by_cases hz : Zx Z = 0
 · rw [if_pos hz] at h; rw [Zft hz]; exact h.trans (Eqv.nrm _).symm
 · rw [if_neg hz] at h; rw [Zgt hz]; exact h
theorem Zgd {p : List Tm} {i j : Int} (h : ∀ t ∈ p, ¬ ((t.i : Int) = i ∧ (t.j : Int) = j)) : cfT p i j = 0 := by
 induction p with
 | nil => rfl
 | cons t p ih =>
  rw [cfT, if_neg (h t List.mem_cons_self)]
  exact ih (fun s hs => h s (List.mem_cons_of_mem _ hs))
theorem Zy4 (a b : Nat) : ∀ {p : List Tm}, Nrm p → cfT p (a : Int) (b : Int) = lin (at0 a b) p
 | [], _ => rfl
 | t :: p, h => by
  have ih := Zy4 a b (Zhz h)
  rw [cfT, lin]
  by_cases e : t.i = a ∧ t.j = b
  ·
   obtain ⟨e1, e2⟩ := e
   rw [if_pos oo, Yc (fun s hs e3 => by
    have h1 := (List.pairwise_cons.1 h.2).1 s hs
    rw [Kz] at h1; omega)]
   unfold at0; rw [if_pos ⟨e1, e2⟩]; grind
  ·
   rw [if_neg oo, ih]
   unfold at0; rw [if_neg e]; grind
theorem po_A {Z : List Tz} (h : ¬ Zx Z = 0) (hc : (okB Z != false) = true) : False := by
 have h1 : okB Z = true := by simpa using hc
 exact h ((Zpo Z).1 h1).1
theorem po_B {Z : List Tz} (h : Z.length ≠ (npZ Z).length) (hc : (okB Z != false) = true) : False := by
 have h1 : okB Z = true := by simpa using hc
 obtain ⟨h2, h3⟩ := (Zpo Z).1 h1
 exact h (by rw [Zft h2, h3, List.length_map])
theorem po_C {Z : List Tz} (h : Zx Z = 0) (hc : (okB Z != decide (Z = (npZ Z).map toZ)) = true) : False := by
 have key : okB Z = true ↔ Z = (npZ Z).map toZ := by
  rw [Zpo, Zft h]
  constructor
  · rintro ⟨_, h2⟩; rw [h2, Zxj h]
  ·
   intro h2
   refine ⟨h, ?_⟩
   have h3 := congrArg (List.map tmZ) h2
   rw [List.map_map] at h3
   have h4 : ∀ t ∈ norm (Z.map tmZ), (tmZ ∘ toZ) t = id t := fun t _ => Qfd t
   rw [List.map_congr_left h4, List.map_id] at h3
   exact h3.symm
 by_cases h5 : okB Z = true
 · rw [h5, decide_eq_true (key.1 h5)] at hc; cases hc
 · rw [Bool.eq_false_iff.2 h5, decide_eq_false (fun e => h5 (key.2 e))] at hc; cases hc
theorem clNe {x : Int} (hc : (x != x) = true) : False := by simp at hc
theorem clSt {x y : ByteArray} (e : x = y) (hc : (!decide (x = y)) = true) : False := by rw [decide_eq_true e] at hc; cases hc
theorem Zoi (l : List Ti) (ad : Option Addr) (c : Nat) (hok : ∀ t ∈ l, OkT t) (hn : l.length ≤ 1000) : Ctr Tryz.prog 12 [.slice ad l.length c] [Row ad (cellsOf Jq l)] (fun v Ψ => ∃ ad' c', v = .slice ad' (l.map tzz).length c' ∧ Ψ = [Row ad' (cellsOf Qy (l.map tzz))]) := by
 refine fn_intro func12 rfl ntmps12 nb ?_
 intro S w0 a hS h
 refine gC h (zS (za rfl (zn (zS (za rfl (zn (zs (zS (za rfl (zn (zb ?_))))))))))); clear h; intro a w h
 refine Zf (fun (k : Nat) a w => k ≤ l.length ∧ ∃ (ad1 : Option Addr) (c1 : Nat) (o1 : List (Nat × Obj)), (GrowO 7 117 (.slice ad1 ((l.take k).map tzz).length c1) ((l.take k).map tzz).length (cellsOf Qy ((l.take k).map tzz)) o1) ∧ St 32 S w0 [(0, .slice ad l.length c), (2, .slice none 0 0), (3, (.slice ad1 ((l.take k).map tzz).length c1)), (4, nI k)] (o1 ++ []) [Row ad (cellsOf Jq l)] a w) (fun k => l.length - k) 0 (⟨Nat.zero_le _, none, 0, [], GrowO.nil _ _, by exact (h).sub sA⟩) ?_; clear h
 rintro k a w ⟨hi_k, ad1, c1, o1, hG1, h⟩
 refine gC h (zs (zS (zm rfl (zm rfl (zp (.builtin [_] rfl (Qz _ _ _)) (zp (.lss rfl rfl) (zn ?_))))))); clear h; intro a w h
 refine cW ?_
 refine Zb h rfl (fun hc8 => ?_) (fun hc8 => ?_)
 ·
  skip
  have hlt_k : k < l.length := dT hc8
  obtain ⟨B_ad, O_ad, rfl⟩ := h.row_addr (ad := ad) (M := cellsOf Jq l) mm (nE 4)
  obtain ⟨_, _, hqa, hqb, hqc, hqd⟩ := hok _ (getD_mem l (d := Ti0) hlt_k)
  have hlk : ((l.take k).map tzz).length = k := by rw [List.length_map, List.length_take]; omega
  have hst : (l.take k).map tzz ++ [tzz (l.getD k Ti0)] = (l.take (k + 1)).map tzz := by rw [Zba l hlt_k, List.map_append]; rfl
  refine gC h (zk (zs (zb (yD Za [0, 1, 2, 3, 4, 5, 6, 7, 8, 9, 10, 11, 12, 13, 14, 15, 16, 17, 18, 19, 20] (Zd kk) (ym rfl rfl (ym rfl rfl (ym rfl rfl (yp rfl (.indexAddr rfl rfl (Zfe _ _ _ _ _ oo)) (yp rfl (Pure1.cast (v' := .pointer (some ⟨B_ad, O_ad + (k * 4 + 0), none⟩)) (.fA rfl Zjc) (by rw [Nat.add_assoc])) ?_))))))))); clear h
  refine Zm rfl kk rfl mm (Za3 (k := 4) (enc := Jq) (fun _ => rfl) l k 0 oo dd) isAgg3 sizeOf3 (Xw (k := 4) (enc := Jq) (fun _ => rfl) l Ti0 k oo false 1 0 _ dd dd rfl) (.inr rfl) dd ?_
  refine ym rfl rfl (ym rfl rfl (yp rfl (.indexAddr rfl rfl (Zfe _ _ _ _ _ oo)) (yp rfl (Pure1.cast (v' := .pointer (some ⟨B_ad, O_ad + (k * 4 + 1), none⟩)) (.fA rfl Zjb) (by rw [Nat.add_assoc])) ?_)))
  refine Zm rfl kk rfl mm (Za3 (k := 4) (enc := Jq) (fun _ => rfl) l k 1 oo dd) isAgg3 sizeOf3 (Xw (k := 4) (enc := Jq) (fun _ => rfl) l Ti0 k oo false 1 1 _ dd dd rfl) (.inr rfl) dd ?_
  refine ym rfl rfl (ym rfl rfl (yp rfl (.indexAddr rfl rfl (Zfe _ _ _ _ _ oo)) (yp rfl (Pure1.cast (v' := .pointer (some ⟨B_ad, O_ad + (k * 4 + 2), none⟩)) (.fA rfl Zja) (by rw [Nat.add_assoc])) ?_)))
  refine Zm rfl kk rfl mm (Za3 (k := 4) (enc := Jq) (fun _ => rfl) l k 2 oo dd) isAgg25 sizeOf25 (Xw (k := 4) (enc := Jq) (fun _ => rfl) l Ti0 k oo true 2 2 _ dd dd rfl) (.inl rfl) dd ?_
  refine yv [_] rfl rfl call62 (Zdr ((l.getD k Ti0).n) ((l.getD k Ti0).d) oo oo oo oo) ?_
  have hl27 := Ju ((l.getD k Ti0).n) ((l.getD k Ti0).d) oo oo oo oo
  refine yp rfl (.build [(_, _), (_, _), (_, _)] rfl (Vc _ _ _ _ _ _ _)) (yB rfl [(_, _)] rfl (Zef _ _ _ _ _ _ _) fun b29 => ?_)
  refine Gg (σr := []) rfl kk rfl rfl (List.Perm.trans (List.Perm.refl _) (List.Perm.cons _ (List.Perm.refl _))) hG1 runUnderlying47 runUnderlying47 typeInfo117 sizeOf117 Gz rfl dd dd rfl rfl dd (by show 72 * (2 * (((l.take k).map tzz).length + 1) + 192) ≤ 281474976710656; omega) dd ?_
  intro v30 o30 hG30
  obtain ⟨ad30, c30, rfl⟩ := hG30.is
  have hLn30 : ((l.take k).map tzz).length + 1 = (((l.take k).map tzz) ++ [(⟨(l.getD k Ti0).i, (l.getD k Ti0).j, qv ((l.getD k Ti0).n) ((l.getD k Ti0).d)⟩ : Tz)]).length := lA
  rw [hLn30]; rw [hLn30] at hG30
  replace hG30 : GrowO 7 117 (.slice ad30 (((l.take k).map tzz) ++ [(⟨(l.getD k Ti0).i, (l.getD k Ti0).j, qv ((l.getD k Ti0).n) ((l.getD k Ti0).d)⟩ : Tz)]).length c30) (((l.take k).map tzz) ++ [(⟨(l.getD k Ti0).i, (l.getD k Ti0).j, qv ((l.getD k Ti0).n) ((l.getD k Ti0).d)⟩ : Tz)]).length (cellsOf Qy (((l.take k).map tzz) ++ [(⟨(l.getD k Ti0).i, (l.getD k Ti0).j, qv ((l.getD k Ti0).n) ((l.getD k Ti0).d)⟩ : Tz)])) o30 := by rw [Qd, Xc]; exact hG30
  refine yp rfl (.assign rfl) (yn (zr (zm rfl (zp (.pN (k + 1) (.add rfl rfl)) (za rfl (zn ?_)))))); intro a w h
  rw [show ((l.take k).map tzz ++ [(⟨(l.getD k Ti0).i, (l.getD k Ti0).j, qv (l.getD k Ti0).n (l.getD k Ti0).d⟩ : Tz)]) = (l.take (k + 1)).map tzz from hst] at h hG30
  exact ⟨k + 1, ⟨oo, ad30, c30, o30, hG30, by exact (h.factsSub (by simp)).sub sA⟩, oo⟩
 ·
  skip
  have heq_k : l.length = k := dF hc8
  subst heq_k
  rw [List.take_length] at h hG1
  replace h := St.shareO' h hS hG1
  refine gC h (ze (zS (zm rfl (za rfl (zn (zt ?_)))))); clear h; intro a w h
  refine Qg (Ψ := [Row _ (cellsOf Qy (l.map tzz))]) h (Zc h rfl (.tmp rfl)) ⟨_, _, rfl, rfl⟩ ss
theorem Zbq (p : List Tm) (ad : Option Addr) (c K : Nat) (b1 : Nat) (la : List FT) (K2 : Nat) (hq : Pq 12 K p) (hN : Nrm p) (hK : K ≤ 300000) (ha : Tb 12 K2 (xs la)) (hK2 : K2 ≤ 1000000) (he : Eqv (pol (xs la)) p) : Vj Tryz.prog 20 [.slice ad p.length c, .slice (some ⟨b1, 0, none⟩) 169 169] [TabF, Row ad (cellsOf Zp p), Row (some ⟨b1, 0, none⟩) (cellsOf Jr la), AllF la] (.bool true) := by
 refine fn_intro func20 rfl ntmps20 nb ?_
 intro S w0 a hS h
 refine gC h (zS (za rfl (zn (zS (zm rfl (zw [_] rfl call26 (C_OkN p _ _ hN (hq.deg.mono dd) (by have := hq.len; omega)) (zm rfl ?_))))))); clear h; intro a w h
 refine Zg h (fun hc7 h => ?_) (fun hc7 h => (by exfalso; cases hc7))
 refine gL h (zq 7 rfl rfl (.move rfl) ?_); clear h; intro a w h
 refine Ze 7 h rfl rfl (Qb h (vs := [_]) rfl call21 (Zmi p _ _ 12 K hq dd hK) ss dd ?_); clear h; intro a w h
 refine gL h (zq 7 rfl rfl (.move rfl) ?_); clear h; intro a w h
 refine Ze 7 h rfl rfl (Qb h (vs := [_]) rfl call22 (Zzr b1 la K2 ha hK2) ss dd ?_); clear h; intro a w h
 refine gL h (zq 7 rfl rfl (.binOp rfl rfl (fun _ => Xf _ _ _ _ _)) (zp (.pickT rfl rfl) (za rfl (zn (zt ?_))))); clear h; intro a w h
 refine Jm h (Zc h rfl (.tmp rfl)) ?_
 refine congrArg Value.bool ?_
 exact decide_eq_true (by rw [Ji he])
theorem Qc7 (Z : List Tz) (p : List Tm) (ad adb : Option Addr) (ca cb : Nat) (h1 : Z.length ≤ 1000000) (h2 : p.length ≤ 1000000) : Vj Tryz.prog 27 [.slice ad Z.length ca, .slice adb p.length cb] [Row ad (cellsOf Qy Z), Row adb (cellsOf Zp p)] (.bool (decide (Z = p.map toZ))) := by
 have h := Zth Z (p.map toZ) ad adb ca cb h1 (by rw [List.length_map]; exact h2)
 rw [Zn1, List.length_map] at h; exact h
theorem Zc3 (l : List Ti) (ad : Option Addr) (c : Nat) (hok : ∀ t ∈ l, OkT t) (hln : l.length ≤ 9223372036854775807) (i j : Int) (hi : -9223372036854775808 ≤ i ∧ i ≤ 9223372036854775807) (hj : -9223372036854775808 ≤ j ∧ j ≤ 9223372036854775807) : Vj Tryz.prog 4 [.slice ad l.length c, .int .i64 i, .int .i64 j] [TabF, Row ad (cellsOf Jq l)] (.bool true) := by
 refine fn_intro func4 rfl ntmps4 nb ?_
 intro S w0 a hS h
 refine gC h (zS (za rfl (zn (zs (zS (zm rfl (zp (.builtin [_] rfl (Qz _ _ _)) (zp (.gtr rfl rfl) (zn ?_))))))))); clear h; intro a w h
 refine cW ?_
 refine Zb h rfl (fun hc15 => ?_) (fun hc15 => ?_)
 ·
  skip
  refine gC h (zS (zv [] rfl call18 (Yk) (za rfl (zn (zt ?_))))); clear h; intro a w h
  exact Zbw h
 ·
  skip
  have hll : l.length ≤ 20 := dF hc15
  refine gC h (zk (zS (zm rfl (zf [_] rfl call12 (Zoi l _ _ hok oo) ?_)))); clear h; rintro v18 Ψ18 ⟨ad18, c18, rfl, rfl⟩ a w h
  obtain ⟨Z, hZ⟩ : ∃ Z, l.map tzz = Z := ⟨_, rfl⟩
  rw [hZ] at h
  have hZl : Z.length ≤ 20 := by rw [← hZ, List.length_map]; exact hll
  have hZK : ∀ t ∈ Z, Qc t.c ≤ 4 := fun t ht => by
   rw [← hZ] at ht
   obtain ⟨s, hs, rfl⟩ := List.mem_map.1 ht
   exact Jn (hok s hs).2.2
  have hpq := Qd1 hZK hZl dd
  have hN := Zxd Z
  have hfe : Zx Z = erT (l.map tzI) := by rw [← hZ]; exact Qgj l
  refine gL h (za rfl (zn (zS (zm rfl (zf [_] rfl call19 (C_OfZ Z _ _ 4 oo hZK dd) ?_))))); rintro v21 Ψ21 ⟨ad21, c21, rfl, rfl⟩
  refine zm rfl (zp (.eX rfl) (zp (.eX rfl) (za rfl (za rfl (zn (zS (zm rfl (zf [_] rfl call9 (Ztm l _ _ hok oo) ?_)))))))); rintro v26 Ψ26 ⟨b26, l26, rfl, hn26, he26, rfl⟩ a w h
  replace he26 := Zwn hZ he26
  have ht26 : Tb 12 (20 * (4 + 1) + 1) (xs l26) := Tb.of_eqv (by rw [Zdm]; exact hn26) he26 hpq.deg hpq.hgt
  have hnp : norm (pol (xs l26)) = npZ Z := by rw [Ji he26, Zlc]
  refine gL h (zm rfl (zp (.eX rfl) (zp (.eX rfl) (za rfl (za rfl (zn (zs (zS (zm rfl (zm rfl (zp (.neq rfl rfl) ?_))))))))))); clear h; intro a w h
  refine Zg h (fun hc31 h => (by exfalso; rw [hfe] at hc31; exact clNe hc31)) (fun hc31 h => ?_)
  refine gL h (zm rfl (zq 32 rfl rfl (.move rfl) (zq 32 rfl rfl (.move rfl) ?_))); clear h; intro a w h
  refine Ze 32 h rfl rfl (Qb h (vs := [_, _]) rfl call20 (Zbq (npZ Z) _ _ _ b26 l26 _ hpq hN dd ht26 dd he26) ss dd ?_); clear h; intro a w h
  refine Zg h (fun hc35 h => ?_) (fun hc35 h => (by exfalso; cases hc35))
  refine gL h (zq 32 rfl rfl (.unOp rfl (Xe _)) (zp (.pickF rfl rfl) (zm rfl (zq 38 rfl rfl (.move rfl) ?_)))); clear h; intro a w h
  refine Ze 38 h rfl rfl (Qb h (vs := [_]) rfl call21 (Qh1 Z _ _ 4 oo hZK dd) ss dd ?_); clear h; intro a w h
  refine gL h (zq 38 rfl rfl (.move rfl) ?_); clear h; intro a w h
  refine Ze 38 h rfl rfl (Qb h (vs := [_]) rfl call22 (Zzr b26 l26 _ ht26 dd) ss dd ?_); clear h; intro a w h
  refine gL h (zq 38 rfl rfl (.binOp rfl rfl (fun _ => Kn _ _ _ _ _)) ?_); clear h; intro a w h
  refine Zg h (fun hc43 h => (by exfalso; exact clSt (by rw [hnp]) hc43)) (fun hc43 h => ?_)
  refine gL h (zp (.pickF rfl rfl) (zm rfl (zq 45 rfl rfl (.move rfl) ?_))); clear h; intro a w h
  refine Ze 45 h rfl rfl (Qb h (vs := [_]) rfl call23 (Zon Z _ _ 4 oo hZK dd) ss dd ?_); clear h; intro a w h
  refine gL h (zq 45 rfl rfl (.move rfl) ?_); clear h; intro a w h
  refine Ze 45 h rfl rfl (Qb h (vs := [_]) rfl call24 (Zzx b26 l26 hn26) ss dd ?_); clear h; intro a w h
  refine gL h (zq 45 rfl rfl (.neq rfl rfl) ?_); clear h; intro a w h
  refine Zg h (fun hc50 h => (by exfalso; rw [Qcq ht26.len, hnp] at hc50; exact clNe hc50)) (fun hc50 h => ?_)
  refine gL h (zp (.pickF rfl rfl) (zm rfl (zq 52 rfl rfl (.move rfl) ?_))); clear h; intro a w h
  refine Ze 52 h rfl rfl (Qb h (vs := [_]) rfl call23 (Ya (npZ Z) _ _ 12 _ hpq dd dd) ss dd ?_); clear h; intro a w h
  refine gL h (zq 52 rfl rfl (.move rfl) ?_); clear h; intro a w h
  refine Ze 52 h rfl rfl (Qb h (vs := [_]) rfl call23 (Zon Z _ _ 4 oo hZK dd) ss dd ?_); clear h; intro a w h
  refine gL h (zq 52 rfl rfl (.neq rfl rfl) ?_); clear h; intro a w h
  refine Zg h (fun hc57 h => (by exfalso; rw [Zlc] at hc57; exact clNe hc57)) (fun hc57 h => ?_)
  refine gL h (zp (.pickF rfl rfl) (zm rfl (zq 59 rfl rfl (.move rfl) (zq 59 rfl rfl (.move rfl) ?_)))); clear h; intro a w h
  refine Ze 59 h rfl rfl (Qb h (vs := [_, _]) rfl call25 (Qh6 Z _ _ 4 oo hZK dd _ _) ss dd ?_); clear h; intro a w h
  refine Zg h (fun hc62 h => ?_) (fun hc62 h => (by exfalso; cases hc62))
  refine gL h (zq 59 rfl rfl (.unOp rfl (Xe _)) (zp (.pickF rfl rfl) (zm rfl (zq 65 rfl rfl (.move rfl) ?_)))); clear h; intro a w h
  refine Ze 65 h rfl rfl (Qb h (vs := [_]) rfl call26 (C_OkZ Z _ _ oo) ss dd ?_); clear h; intro a w h
  refine gL h (zq 65 rfl rfl (.move rfl) (zq 65 rfl rfl (.eql rfl rfl) ?_)); clear h; intro a w h
  refine Zg h (fun hc69 h => ?_) (fun hc69 h => ?_)
  focus
   have hz0 : Zx Z = 0 := by simpa using hc69
   refine gL h (zq 65 rfl rfl (.move rfl) (zq 70 rfl rfl (.move rfl) (zq 70 rfl rfl (.builtin [_] rfl (Zk _ _ _)) (zq 70 rfl rfl (.move rfl) (zq 70 rfl rfl (.builtin [_] rfl (Zk _ _ _)) (zq 70 rfl rfl (.eql rfl rfl) ?_)))))); clear h; intro a w h
   refine Zg h (fun hc75 h => ?_) (fun hc75 h => ?_)
   focus
    have hle75 := Zbf hc75
    refine gL h (zq 65 rfl rfl (.pickT rfl rfl) (zq 65 rfl rfl (.move rfl) (zq 77 rfl rfl (.move rfl) (zq 77 rfl rfl (.move rfl) ?_)))); clear h; intro a w h
    refine Ze 77 h rfl rfl (Qb h (vs := [_, _]) rfl call27 (Qc7 Z (npZ Z) _ _ _ _ oo (by have := hpq.len; omega)) ss dd ?_); clear h; intro a w h
    refine Zg h (fun hc80 h => ?_) (fun hc80 h => ?_)
    focus
     have hal : Z = (npZ Z).map toZ := of_decide_eq_true hc80
     refine gL h (zq 65 rfl rfl (.pickT rfl rfl) (zq 65 rfl rfl (.binOp rfl rfl (fun _ => Zax _ underlying4 _ _ _ _)) ?_)); clear h; intro a w h
     refine Zg h (fun hc82 h => (by exfalso; exact po_C hz0 (by rw [decide_eq_true hal]; exact hc82))) (fun hc82 h => ?_)
    rotate_left
    focus
     have hal : ¬ Z = (npZ Z).map toZ := of_decide_eq_false hc80
     refine gL h (zq 65 rfl rfl (.pickT rfl rfl) (zq 65 rfl rfl (.binOp rfl rfl (fun _ => Zax _ underlying4 _ _ _ _)) ?_)); clear h; intro a w h
     refine Zg h (fun hc82 h => (by exfalso; exact po_C hz0 (by rw [decide_eq_false hal]; exact hc82))) (fun hc82 h => ?_)
   rotate_left 2
   focus
    have hle75 := Zaw hc75
    refine gL h (zq 65 rfl rfl (.pickT rfl rfl) (zq 65 rfl rfl (.move rfl) (zo 77 rfl rfl rfl (zo 77 rfl rfl rfl (zo 77 rfl rfl rfl (zq 65 rfl rfl (.pickF rfl rfl) (zq 65 rfl rfl (.binOp rfl rfl (fun _ => Zax _ underlying4 _ _ _ _)) ?_))))))); clear h; intro a w h
    refine Zg h (fun hc82 h => (by exfalso; exact po_B hle75 hc82)) (fun hc82 h => ?_)
  rotate_left 3
  focus
   have hz0 : ¬ Zx Z = 0 := by simpa using hc69
   refine gL h (zq 65 rfl rfl (.move rfl) (zo 70 rfl rfl rfl (zo 70 rfl rfl rfl (zo 70 rfl rfl rfl (zo 70 rfl rfl rfl (zo 70 rfl rfl rfl (zq 65 rfl rfl (.pickF rfl rfl) (zq 65 rfl rfl (.move rfl) (zo 77 rfl rfl rfl (zo 77 rfl rfl rfl (zo 77 rfl rfl rfl (zq 65 rfl rfl (.pickF rfl rfl) (zq 65 rfl rfl (.binOp rfl rfl (fun _ => Zax _ underlying4 _ _ _ _)) ?_))))))))))))); clear h; intro a w h
   refine Zg h (fun hc82 h => (by exfalso; exact po_A hz0 hc82)) (fun hc82 h => ?_)
  all_goals
   refine gL h (zp (.pickF rfl rfl) (zn ?_)); clear h; intro a w h
   refine cW ?_
   refine Zj h rfl ?_
   refine gC h (zk (zS (zm rfl (zm rfl (zm rfl (zw [_, _, _] rfl call28 (Qik Z _ _ 4 oo hZK dd i j) (zz Vd fun b12 => zt' rfl rfl Qi uu sizeOf44 rfl nb rfl ?_)))))))
   refine zn (zs (zS (zm rfl (zp (.lss rfl rfl) ?_)))); intro a w h
   refine Zg h (fun hc89 h => ?_) (fun hc89 h => ?_)
   focus
    have h89 : i < 0 := of_decide_eq_true hc89
    have hcz : cfT (npZ Z) i j = 0 := Zgd (fun t ht hh => by have := hpq.deg t ht; omega)
    refine gL h (zm rfl (zo 90 rfl rfl rfl (zo 90 rfl rfl rfl (zp (.pickT rfl rfl) (zm rfl (zo 94 rfl rfl rfl (zo 94 rfl rfl rfl (zp (.pickT rfl rfl) (zm rfl (zo 98 rfl rfl rfl (zo 98 rfl rfl rfl (zp (.pickT rfl rfl) (zm rfl (zo 102 rfl rfl rfl (zo 102 rfl rfl rfl (zo 102 rfl rfl rfl (zo 102 rfl rfl rfl (zp (.pickT rfl rfl) (zn ?_))))))))))))))))))); clear h; intro a w h
   rotate_left
   focus
    have h89 : ¬ i < 0 := of_decide_eq_false hc89
    refine gL h (zm rfl (zq 90 rfl rfl (.move rfl) (zq 90 rfl rfl (.lss rfl rfl) ?_))); clear h; intro a w h
    refine Zg h (fun hc92 h => ?_) (fun hc92 h => ?_)
    focus
     have h92 : j < 0 := of_decide_eq_true hc92
     have hcz : cfT (npZ Z) i j = 0 := Zgd (fun t ht hh => by have := hpq.deg t ht; omega)
     refine gL h (zp (.pickF rfl rfl) (zm rfl (zo 94 rfl rfl rfl (zo 94 rfl rfl rfl (zp (.pickT rfl rfl) (zm rfl (zo 98 rfl rfl rfl (zo 98 rfl rfl rfl (zp (.pickT rfl rfl) (zm rfl (zo 102 rfl rfl rfl (zo 102 rfl rfl rfl (zo 102 rfl rfl rfl (zo 102 rfl rfl rfl (zp (.pickT rfl rfl) (zn ?_)))))))))))))))); clear h; intro a w h
    rotate_left
    focus
     have h92 : ¬ j < 0 := of_decide_eq_false hc92
     refine gL h (zp (.pickF rfl rfl) (zm rfl (zq 94 rfl rfl (.move rfl) (zq 94 rfl rfl (.gtr rfl rfl) ?_)))); clear h; intro a w h
     refine Zg h (fun hc96 h => ?_) (fun hc96 h => ?_)
     focus
      have h96 : i > 12 := of_decide_eq_true hc96
      have hcz : cfT (npZ Z) i j = 0 := Zgd (fun t ht hh => by have := hpq.deg t ht; omega)
      refine gL h (zp (.pickF rfl rfl) (zm rfl (zo 98 rfl rfl rfl (zo 98 rfl rfl rfl (zp (.pickT rfl rfl) (zm rfl (zo 102 rfl rfl rfl (zo 102 rfl rfl rfl (zo 102 rfl rfl rfl (zo 102 rfl rfl rfl (zp (.pickT rfl rfl) (zn ?_)))))))))))); clear h; intro a w h
     rotate_left
     focus
      have h96 : ¬ i > 12 := of_decide_eq_false hc96
      refine gL h (zp (.pickF rfl rfl) (zm rfl (zq 98 rfl rfl (.move rfl) (zq 98 rfl rfl (.gtr rfl rfl) ?_)))); clear h; intro a w h
      refine Zg h (fun hc100 h => ?_) (fun hc100 h => ?_)
      focus
       have h100 : j > 12 := of_decide_eq_true hc100
       have hcz : cfT (npZ Z) i j = 0 := Zgd (fun t ht hh => by have := hpq.deg t ht; omega)
       refine gL h (zp (.pickF rfl rfl) (zm rfl (zo 102 rfl rfl rfl (zo 102 rfl rfl rfl (zo 102 rfl rfl rfl (zo 102 rfl rfl rfl (zp (.pickT rfl rfl) (zn ?_)))))))); clear h; intro a w h
      rotate_left
      focus
       have h100 : ¬ j > 12 := of_decide_eq_false hc100
       refine gL h (zp (.pickF rfl rfl) (zm rfl (zq 102 rfl rfl (.move rfl) (zq 102 rfl rfl (.move rfl) (zq 102 rfl rfl (.add rfl rfl) (zq 102 rfl rfl (.gtr rfl rfl) ?_)))))); clear h; intro a w h
       refine Zg h (fun hc106 h => ?_) (fun hc106 h => ?_)
       rotate_left
       ·
        skip
        have h106 : ¬ i + j > 12 := of_decide_eq_false hc106
        have hia : ((i.toNat : Nat) : Int) = i := Int.toNat_of_nonneg oo
        have hja : ((j.toNat : Nat) : Int) = j := Int.toNat_of_nonneg oo
        have hcx : (l26.getD (13 * i.toNat + j.toNat) FT0).x = cfT (npZ Z) i j := by
         rw [Yz, ← hia, ← hja, Zy4 i.toNat j.toNat hN, ← he26, Ziq oo]; rfl
        have hcs : Qc (cfT (npZ Z) i j) ≤ 300000 := by rw [← hcx]; exact Nat.le_trans (ht26.sizl oo) dd
        have hl26 := ht26.lenl
        replace h := h.derive (R := Row (l26.getD (13 * i.toNat + j.toNat) FT0).a2 (List.map Zv (dg ((l26.getD (13 * i.toNat + j.toNat) FT0).x.den - 1)))) (fun X hX => AllF.g2 (hX _ mm) (13 * i.toNat + j.toNat))
        replace h := h.derive (R := Row (l26.getD (13 * i.toNat + j.toNat) FT0).a1 (List.map Zv (dg (l26.getD (13 * i.toNat + j.toNat) FT0).x.num.natAbs))) (fun X hX => AllF.g1 (hX _ mm) (13 * i.toNat + j.toNat))
        refine gL h (zp (.pickF rfl rfl) (zn ?_)); clear h; intro a w h
        refine cW ?_
        refine Zj h rfl ?_
        refine gC h (zk (zs (yD Za [0, 1, 2, 3, 4, 5, 6, 7, 8, 9, 10, 11, 12, 13, 14, 15, 16, 17, 18] (Zd kk) (yd rfl rfl mr isAgg44 sizeOf44 Zh ?_)))); clear h
        refine ym rfl rfl (ym rfl rfl (yp rfl (.pO (13 * i.toNat) (.mul rfl rfl)) (ym rfl rfl (yp rfl (.pO (13 * i.toNat + j.toNat) (.add rfl rfl)) (yp rfl (.indexAddr rfl rfl (Gt _ _ _ _ _ oo)) ?_)))))
        refine Zm rfl kk rfl mm (cells_lt (k := 3) dd (fun _ => rfl) l26 (13 * i.toNat + j.toNat) oo) isAgg56 sizeOf56 (Zr (k := 3) (fun _ => rfl) ((fun _ => rfl)) l26 FT0 (13 * i.toNat + j.toNat) oo) (.inl rfl) dd ?_
        refine yw [_, _] rfl rfl call10 (Qac _ _ _ _ (cfT (npZ Z) i j) ((l26.getD (13 * i.toNat + j.toNat) FT0).x) hcs hcx) ?_
        refine Zt (fun hc122  => ?_) (fun hc122  => (by exfalso; cases hc122))
        refine ym rfl rfl (yq rfl rfl rfl (.move rfl) (yq rfl rfl rfl (.move rfl) ?_))
        refine Qo rfl rfl rfl kk (vs := [_]) rfl call12 (Zoi l _ _ hok oo) ss dd ?_; rintro v126 Ψ126 ⟨ad126, c126, rfl, rfl⟩
        refine Qp rfl rfl rfl kk (vs := [_, _]) rfl call27 (Zth Z (l.map tzz) _ _ _ _ oo (by rw [hZ]; omega)) ss dd ?_
        refine Zt (fun hc127  => ?_) (fun hc127  => (absurd hZ.symm (of_decide_eq_false hc127)))
        refine yp rfl (.pickT rfl rfl) (ym rfl rfl ?_)
        refine Jp rfl rfl rfl kk (vs := []) rfl call18 (Yk) dd ?_
        refine yp rfl (.pickT rfl rfl) (yp rfl (.assign rfl) (yn (zt ?_))); intro a w h
        exact Zbw h
       have h106 : i + j > 12 := of_decide_eq_true hc106
       have hcz : cfT (npZ Z) i j = 0 := Zgd (fun t ht hh => by have := hpq.deg t ht; omega)
       refine gL h (zp (.pickF rfl rfl) (zn ?_)); clear h; intro a w h
   all_goals
    refine cW ?_
    refine Zq h rfl ?_
    refine gC h (zS (zd rfl mr isAgg44 sizeOf44 Zh ?_))
    refine zp (Pure1.cast (v' := Jo 0) (.build [] rfl (Zql)) (by rfl)) (zp (.binOp rfl rfl (fun _ => Qfu _ _ (cfT (npZ Z) i j) 0 _)) ?_); intro a w h
    refine Zg h (fun hc110 h => ?_) (fun hc110 h => (absurd hcz (of_decide_eq_false hc110)))
    refine gL h (zm rfl ?_); clear h; intro a w h
    refine Ze 111 h rfl rfl (Yr h (vs := []) rfl call18 (Yk) dd ?_); clear h; intro a w h
    refine gL h (zp (.pickT rfl rfl) (za rfl (zn (zt ?_)))); clear h; intro a w h
    exact Zbw h
end
section
theorem f0r {X : Nat → Prop} {w : World} : (Row none (List.map Zv (dg (0 : Rat).num.natAbs))).p X w ∧ (Row none (List.map Zv (dg ((0 : Rat).den - 1)))).p X w := by
 have e1 : dg (0 : Rat).num.natAbs = [] := by rw [show (0 : Rat).num.natAbs = 0 from rfl, Js]
 have e2 : dg ((0 : Rat).den - 1) = [] := by rw [show (0 : Rat).den - 1 = 0 from rfl, Js]
 rw [e1, e2]; exact ⟨fun hne => absurd rfl hne, fun hne => absurd rfl hne⟩
abbrev fPt (x : Rat) (a1 : Option Addr) (c1 : Nat) (a2 : Option Addr) (c2 : Nat) (y : Rat) (b1 : Option Addr) (d1 : Nat) (b2 : Option Addr) (d2 : Nat) : Value :=
 .agg #[.bool (decide (x.num < 0)), .slice a1 (dg x.num.natAbs).length c1, .slice a2 (dg (x.den - 1)).length c2, .bool (decide (y.num < 0)), .slice b1 (dg y.num.natAbs).length d1, .slice b2 (dg (y.den - 1)).length d2]
end
section
def dxX (A : List Rat) : Nat → List Rat
 | 0 => List.replicate 169 0
 | k + 1 => (dxX A k).set k (A.getD (k + 13) 0 * ((((k + 13) / 13 : Nat) : Int) : Rat))
def dyX (A : List Rat) : Nat → List Rat
 | 0 => List.replicate 169 0
 | k + 1 => if k % 13 > 0 then (dyX A k).set (k - 1) (A.getD k 0 * (((k % 13 : Nat) : Int) : Rat)) else dyX A k
theorem Zmm (n m : Nat) : (List.replicate n (0 : Rat)).getD m 0 = 0 := by
 rw [List.getD_eq_getElem?_getD, List.getElem?_replicate]; split <;> rfl
theorem Zp8 (A : List Rat) : ∀ k, (dxX A k).length = 169
 | 0 => List.length_replicate
 | k + 1 => by rw [dxX, List.length_set, Zp8 A k]
theorem Zlz (A : List Rat) : ∀ k, (dyX A k).length = 169
 | 0 => List.length_replicate
 | k + 1 => by
  rw [dyX]; split
  · rw [List.length_set, Zlz A k]
  · exact Zlz A k
theorem Qd7 (A : List Rat) : ∀ k m, k ≤ m → (dxX A k).getD m 0 = 0
 | 0, m, _ => Zmm 169 m
 | k + 1, m, h => by rw [dxX, Kh oo]; exact Qd7 A k m oo
theorem Zyl (A : List Rat) : ∀ k m, k ≤ m + 1 → (dyX A k).getD m 0 = 0
 | 0, m, _ => Zmm 169 m
 | k + 1, m, h => by
  rw [dyX]; split
  · rw [Kh oo]; exact Zyl A k m oo
  · exact Zyl A k m oo
theorem Zxs {ψ : Nat → Nat → Rat} (h : ∀ j, ψ 0 j = 0) {A : List Rat} (hA : A.length = 169) : ∀ n, n ≤ 13 → lin ψ ((pol A).take n) = 0
 | 0, _ => rfl
 | n + 1, hn => by
  rw [take_snoc (pol A) (show n < (pol A).length by rw [Xi]; omega), Jf, Ku oo, Zxs h hA n oo]
  simp only [lin]; rw [show n / 13 = 0 by omega, h]; grind
theorem Zyo {A : List Rat} (hA : A.length = 169) : ∀ k, k ≤ 156 → Eqv (pol (dxX A k)) (dxL ((pol A).take (k + 13)))
 | 0, _ => fun φ => by
  rw [dxX, Jh, Zb9, Zxs (fun j => by rw [show (((0 : Nat) : Int) : Rat) = 0 from rfl]; grind) hA 13 (Nat.le_refl _)]
 | k + 1, h => fun φ => by
  have ih := Zyo hA k oo φ
  rw [dxX, Yu φ _ (by rw [Zp8]; omega), ih, Qd7 A k k (Nat.le_refl _), show k + 1 + 13 = (k + 13) + 1 by omega, take_snoc (pol A) (show k + 13 < (pol A).length by rw [Xi]; omega), Ku oo]
  simp only [Zb9, Jf, lin]
  rw [show (k + 13) / 13 - 1 = k / 13 by omega, show (k + 13) % 13 = k % 13 by omega]; grind
theorem Zym {A : List Rat} (hA : A.length = 169) : ∀ k, k ≤ 169 → Eqv (pol (dyX A k)) (dyL ((pol A).take k))
 | 0, _ => fun φ => by rw [dyX, Jh]; rfl
 | k + 1, h => fun φ => by
  have ih := Zym hA k oo φ
  rw [dyX, take_snoc (pol A) (show k < (pol A).length by rw [Xi]; omega), Ku oo]
  simp only [Zdf, Jf, lin] at ih ⊢
  split
  · rw [Yu φ _ (by rw [Zlz]; omega), ih, Zyl A k (k - 1) oo, show (k - 1) / 13 = k / 13 by omega, show (k - 1) % 13 = k % 13 - 1 by omega]; grind
  · rw [ih, show k % 13 = 0 by omega, show (((0 : Nat) : Int) : Rat) = 0 from rfl]; grind
theorem Zyp {A : List Rat} (hA : A.length = 169) : Eqv (pol (dxX A 156)) (dxL (pol A)) := fun φ => by
 have := Zyo hA 156 (Nat.le_refl _) φ
 rwa [List.take_of_length_le (by rw [Xi]; omega)] at this
theorem Zyn {A : List Rat} (hA : A.length = 169) : Eqv (pol (dyX A 169)) (dyL (pol A)) := fun φ => by
 have := Zym hA 169 (Nat.le_refl _) φ
 rwa [List.take_of_length_le (by rw [Xi]; omega)] at this
theorem Tb.dxP {d K : Nat} {A X : List Rat} (ha : Tb d K A) (h1 : d ≤ 12) (hl : X.length = 169) (he : Eqv (pol X) (dxL (pol A))) : Tb d (K + 1) X := by
 refine Tb.of_pq hl he ?_
 rw [Ji (Eqv.nrm (pol A)).symm.dx]
 exact Pq.dx (ha.pq h1) h1
theorem Tb.dyP {d K : Nat} {A X : List Rat} (ha : Tb d K A) (h1 : d ≤ 12) (hl : X.length = 169) (he : Eqv (pol X) (dyL (pol A))) : Tb d (K + 1) X := by
 refine Tb.of_pq hl he ?_
 rw [Ji (Eqv.nrm (pol A)).symm.dy]
 exact Pq.dy (ha.pq h1) h1
def atF (A : List Rat) (x y : Rat) : Nat → Rat
 | 0 => 0
 | k + 1 => atF A x y k + A.getD k 0 * x ^ (k / 13) * y ^ (k % 13)
theorem Zzc {A : List Rat} (x y : Rat) : ∀ k, k ≤ A.length → atF A x y k = evP ((pol A).take k) x y
 | 0, _ => rfl
 | k + 1, h => by
  rw [atF, Zzc x y k oo, take_snoc (pol A) (show k < (pol A).length by rw [Xi]; omega), Xa, Ku oo]
  simp only [evP, lin]; grind
theorem Qhh {A : List Rat} (hA : A.length = 169) (x y : Rat) : atF A x y 169 = evP (pol A) x y := by
 rw [Zzc x y 169 oo, List.take_of_length_le (by rw [Xi]; omega)]
theorem Zlk {A : List Rat} {x y : Rat} {K Kx : Nat} (h : ∀ k, k < 169 → Qc (A.getD k 0) ≤ K) (hx : Qc x ≤ Kx) (hy : Qc y ≤ Kx) : ∀ n, n ≤ 169 → Qc (atF A x y n) ≤ 2 + n * (K + 24 * Kx + 10)
 | 0, _ => by rw [atF]; exact Nat.le_trans Zd6 oo
 | n + 1, hn => by
  have ih := Zlk h hx hy n oo
  have h1 := h n oo
  have h2 := Zcs x (n / 13) Kx 12 hx oo
  have h3 := Zcs y (n % 13) Kx 12 hy oo
  have h4 := Qf (A.getD n 0) (x ^ (n / 13))
  have h5 := Qf (A.getD n 0 * x ^ (n / 13)) (y ^ (n % 13))
  have h6 := Yw (atF A x y n) (A.getD n 0 * x ^ (n / 13) * y ^ (n % 13))
  rw [atF, Nat.add_mul]; omega
theorem Qds {x : Rat} (h : (x.num.sign != 0) = false) : x = 0 := by
 have h9 : (!(x.num.sign == 0)) = false := h
 rw [Qan] at h9; simpa using h9
theorem Qen (b1 : Nat) (la : List FT) (da Ka : Nat) (ha : Tb da Ka (xs la)) (hda : da ≤ 12) (hka : Ka ≤ 100000000) (b2 : Nat) (lb : List FT) (db Kb : Nat) (hb : Tb db Kb (xs lb)) (hdb : db ≤ 12) (hkb : Kb ≤ 100000000) : Ctr Tryz.prog 103 [.slice (some ⟨b1, 0, none⟩) 169 169, .slice (some ⟨b2, 0, none⟩) 169 169] [Row (some ⟨b1, 0, none⟩) (cellsOf Jr la), AllF la, Row (some ⟨b2, 0, none⟩) (cellsOf Jr lb), AllF lb] (PostT (max da db) (Ka + (4 + Kb + 1) + 2) (pol (xs la) ++ Zs ((-1 : Int) : Rat) (pol (xs lb)))) := by
 refine fn_intro func103 rfl ntmps103 nb ?_
 intro S w0 a hS h
 refine gC h (zS (za rfl (zn (zS (zm rfl (zm rfl (zf [_] rfl call67 (Zkx (-1) oo oo) ?_))))))); rintro v7 Ψ7 ⟨ad7, c7, bd7, d7, rfl, hle7, hlf7, rfl⟩
 have hl7 := Zw (-1) oo oo
 refine zf [_, _] rfl call110 (Zmd b2 lb db Kb hb hdb oo _ _ _ _ 4 ((-1 : Int) : Rat) (Nat.le_trans (Zw (-1) dd dd) dd) dd) ?_; rintro v8 Ψ8 ⟨b8, l8, rfl, ht8, he8, rfl⟩
 refine zf [_, _] rfl call102 (Zta b1 la da Ka ha hda oo b8 l8 db (4 + Kb + 1) ht8 hdb oo) ?_; rintro v9 Ψ9 ⟨b9, l9, rfl, ht9, he9, rfl⟩
 refine za rfl (zn (zt ?_)); intro a w h
 refine Qg (Ψ := [Row (some ⟨b9, 0, none⟩) (cellsOf Jr l9), AllF l9]) h (Zc h rfl (.tmp rfl)) ?_ ss
 exact ⟨b9, l9, rfl, ht9, he9.trans (Eqv.rfl'.append he8), rfl⟩
theorem Qhw (b1 : Nat) (la : List FT) (da Ka : Nat) (ha : Tb da Ka (xs la)) (hda : da ≤ 12) (hka : Ka ≤ 100000000) : Ctr Tryz.prog 107 [.slice (some ⟨b1, 0, none⟩) 169 169] [Row (some ⟨b1, 0, none⟩) (cellsOf Jr la), AllF la] (PostT da (Ka + 1) (dxL (pol (xs la)))) := by
 refine fn_intro func107 rfl ntmps107 nb ?_
 intro S w0 a hS h
 refine gC h (zS (za rfl (zn (zS ?_)))); clear h; intro a w h
 refine Zi (Jb h (vs := []) rfl call105 (Gb) ss dd ?_); clear h; rintro v5 σ5 a w ⟨b5, rfl, rfl⟩ h
 replace h := h.derive (R := AllF (List.replicate 169 FT0)) (fun X hX => AllF.zeros 169 X _)
 refine gL h (za rfl (zn (zs (zS (za rfl (zn (zb ?_))))))); clear h; intro a w h
 refine Zf (fun (k : Nat) a w => k ≤ 156 ∧ ∃ l, ((l.length = 169 ∧ xs l = dxX (xs la) k)) ∧ St 23 S w0 [(0, .slice (some ⟨b1, 0, none⟩) 169 169), (2, .slice none 0 0), (3, .slice (some ⟨b5, 0, none⟩) 169 169), (4, nI (k + 13))] [(b5, .cells (cellsOf Jr (l)).toArray 56 (0, 0))] [AllF l, Row (some ⟨b1, 0, none⟩) (cellsOf Jr la), AllF la] a w) (fun k => 156 - k) 0 (⟨Nat.zero_le _, List.replicate 169 FT0, ⟨List.length_replicate, Vx⟩, by exact (h.factsSub (by simp)).sub (Zen ⟨rfl, rfl, rfl, rfl, trivial⟩)⟩) ?_; clear h
 rintro k a w ⟨hi_k, l, ⟨hln, hxl⟩, h⟩
 refine gC h (zs (zS (zm rfl (zp (.lss rfl rfl) (zn ?_))))); clear h; intro a w h
 refine cW ?_
 refine Zb h rfl (fun hc7 => ?_) (fun hc7 => ?_)
 ·
  skip
  have hlt_k : k < 156 := dT hc7
  have hn1 := ha.lenl
  have hm1 : la.getD (k + 13) FT0 ∈ la := getD_mem _ oo
  have hz1 := ha.sizl (k := (k + 13)) oo
  replace h := h.derive (R := Row (la.getD (k + 13) FT0).a2 (List.map Zv (dg ((la.getD (k + 13) FT0).x.den - 1)))) (fun X hX => AllF.get2 (hX _ mm) hm1)
  replace h := h.derive (R := Row (la.getD (k + 13) FT0).a1 (List.map Zv (dg (la.getD (k + 13) FT0).x.num.natAbs))) (fun X hX => AllF.get1 (hX _ mm) hm1)
  refine gC h (zk (zs (zb (yD Za [0, 1, 2, 3, 4, 5, 6, 7, 8, 9, 10, 11, 12] (Zd kk) (ym rfl rfl (ym rfl rfl (yp rfl (.pO k (.sub rfl rfl)) (ym rfl rfl (ym rfl rfl (yp rfl (.indexAddr rfl rfl (Gt _ _ _ _ _ oo)) ?_)))))))))); clear h
  refine Zm rfl kk rfl mm (cells_lt (k := 3) dd (fun _ => rfl) la (k + 13) oo) isAgg56 sizeOf56 (Zr (k := 3) (fun _ => rfl) ((fun _ => rfl)) la FT0 (k + 13) oo) (.inl rfl) dd ?_
  refine ym rfl rfl (yp rfl (Pure1.cast (v' := .int .i64 (((k + 13) / 13 : Nat) : Int)) (.binOp rfl rfl (fun _ => Vp _ _ _ _ _ dd)) (by rw [show (13 : Int) = ((13 : Nat) : Int) from rfl, Yh, wrap_i64 _ oo oo])) (yf [_] rfl rfl call67 (Zkx ((((k + 13) / 13 : Nat) : Int)) oo oo) ?_)); rintro v19 Ψ19 ⟨ad19, c19, bd19, d19, rfl, hle19, hlf19, rfl⟩
  have hl19 := Zw ((((k + 13) / 13 : Nat) : Int)) oo oo
  refine yf [_, _] rfl rfl call70 (Zjy _ _ _ _ _ _ _ _ ((la.getD (k + 13) FT0).x) ((((((k + 13) / 13 : Nat) : Int) : Int) : Rat)) oo oo) ?_; rintro v20 Ψ20 ⟨ad20, c20, bd20, d20, rfl, hle20, hlf20, rfl⟩
  have hl20 := Qf ((la.getD (k + 13) FT0).x) ((((((k + 13) / 13 : Nat) : Int) : Int) : Rat))
  refine yp rfl (.indexAddr rfl rfl (Gt _ _ _ _ _ oo)) ?_
  refine Gf (b := b5) (cs := (cellsOf Jr l).toArray) (cs' := (cellsOf Jr (l.set k (FT.mk (((la.getD (k + 13) FT0).x) * ((((((k + 13) / 13 : Nat) : Int) : Int) : Rat))) ad20 c20 bd20 d20 hle20 hlf20))).toArray) (v := Jr (FT.mk (((la.getD (k + 13) FT0).x) * ((((((k + 13) / 13 : Nat) : Int) : Int) : Rat))) ad20 c20 bd20 d20 hle20 hlf20)) rfl kk rfl rfl (Yd (k := 3) (fun _ => rfl) l k oo (FT.mk (((la.getD (k + 13) FT0).x) * ((((((k + 13) / 13 : Nat) : Int) : Int) : Rat))) ad20 c20 bd20 d20 hle20 hlf20)) uu sizeOf56 rfl (Vv (k := 3) (fun _ => rfl) l k oo) rfl ?_
  refine yn (zr (zm rfl (zp (.pQ (k + 1 + 13) (Pure1.cast (v' := (.int .i64 (((k + 13) + 1 : Nat) : Int))) (.add rfl rfl) (by show Value.int _ _ = Value.int _ _; congr 1))) (za rfl (zn ?_))))); intro a w h
  replace h := h.derive (R := AllF (l.set k (FT.mk (((la.getD (k + 13) FT0).x) * ((((((k + 13) / 13 : Nat) : Int) : Int) : Rat))) ad20 c20 bd20 d20 hle20 hlf20))) (fun X hX => AllF.set (hX _ mm) (hX _ mm) (hX _ mm))
  have hx2 : xs (l.set k (FT.mk (((la.getD (k + 13) FT0).x) * ((((((k + 13) / 13 : Nat) : Int) : Int) : Rat))) ad20 c20 bd20 d20 hle20 hlf20)) = dxX (xs la) (k + 1) := by rw [Ze2, hxl, dxX, ← Yz]
  exact ⟨k + 1, ⟨oo, l.set k (FT.mk (((la.getD (k + 13) FT0).x) * ((((((k + 13) / 13 : Nat) : Int) : Int) : Rat))) ad20 c20 bd20 d20 hle20 hlf20), ⟨by rw [List.length_set]; exact hln, hx2⟩, by exact (h.factsSub (by simp)).sub sA⟩, oo⟩
 ·
  skip
  have heq_k : 156 = k := dF hc7
  subst heq_k
  replace h := h.shareAll hS (cellsOf Jr l) rfl
  refine gC h (ze (zS (zm rfl (za rfl (zn (zt ?_)))))); clear h; intro a w h
  refine Qg (Ψ := [Row (some ⟨b5, 0, none⟩) (cellsOf Jr l), AllF l]) h (Zc h rfl (.tmp rfl)) ?_ ss
  exact ⟨b5, l, rfl, ha.dxP hda (by rw [hxl]; exact Zp8 _ _) (by rw [hxl]; exact Zyp ha.len), by rw [hxl]; exact Zyp ha.len, rfl⟩
theorem Qhv (b1 : Nat) (la : List FT) (da Ka : Nat) (ha : Tb da Ka (xs la)) (hda : da ≤ 12) (hka : Ka ≤ 100000000) : Ctr Tryz.prog 108 [.slice (some ⟨b1, 0, none⟩) 169 169] [Row (some ⟨b1, 0, none⟩) (cellsOf Jr la), AllF la] (PostT da (Ka + 1) (dyL (pol (xs la)))) := by
 refine fn_intro func108 rfl ntmps108 nb ?_
 intro S w0 a hS h
 refine gC h (zS (za rfl (zn (zS ?_)))); clear h; intro a w h
 refine Zi (Jb h (vs := []) rfl call105 (Gb) ss dd ?_); clear h; rintro v5 σ5 a w ⟨b5, rfl, rfl⟩ h
 replace h := h.derive (R := AllF (List.replicate 169 FT0)) (fun X hX => AllF.zeros 169 X _)
 refine gL h (za rfl (zn (zs (zS (za rfl (zn (zb ?_))))))); clear h; intro a w h
 refine Zf (fun (k : Nat) a w => k ≤ 169 ∧ ∃ l, ((l.length = 169 ∧ xs l = dyX (xs la) k)) ∧ St 26 S w0 [(0, .slice (some ⟨b1, 0, none⟩) 169 169), (2, .slice none 0 0), (3, .slice (some ⟨b5, 0, none⟩) 169 169), (4, nI k)] [(b5, .cells (cellsOf Jr (l)).toArray 56 (0, 0))] [AllF l, Row (some ⟨b1, 0, none⟩) (cellsOf Jr la), AllF la] a w) (fun k => 169 - k) 0 (⟨Nat.zero_le _, List.replicate 169 FT0, ⟨List.length_replicate, Vx⟩, by exact (h.factsSub (by simp)).sub (Zen ⟨rfl, rfl, rfl, rfl, trivial⟩)⟩) ?_; clear h
 rintro k a w ⟨hi_k, l, ⟨hln, hxl⟩, h⟩
 refine gC h (zs (zS (zm rfl (zp (.lss rfl rfl) (zn ?_))))); clear h; intro a w h
 refine cW ?_
 refine Zb h rfl (fun hc7 => ?_) (fun hc7 => ?_)
 ·
  skip
  have hlt_k : k < 169 := dT hc7
  have hn1 := ha.lenl
  have hm1 : la.getD k FT0 ∈ la := getD_mem _ oo
  have hz1 := ha.sizl (k := k) oo
  replace h := h.derive (R := Row (la.getD k FT0).a2 (List.map Zv (dg ((la.getD k FT0).x.den - 1)))) (fun X hX => AllF.get2 (hX _ mm) hm1)
  replace h := h.derive (R := Row (la.getD k FT0).a1 (List.map Zv (dg (la.getD k FT0).x.num.natAbs))) (fun X hX => AllF.get1 (hX _ mm) hm1)
  refine gC h (zk (zs (zb (zS (zm rfl (zp (Pure1.cast (v' := .int .i64 (((k) % 13 : Nat) : Int)) (.binOp rfl rfl (fun _ => Vg _ _ _ _ _ dd)) (by rw [show (13 : Int) = ((13 : Nat) : Int) from rfl, Yg])) (zp (.gtr rfl rfl) ?_))))))); clear h; intro a w h
  refine Zg h (fun hc12 h => ?_) (fun hc12 h => ?_)
  ·
   skip
   have hpos : k % 13 > 0 := dT hc12
   refine wpList_nil ?_
   refine cW ?_
   refine Zq h rfl ?_
   refine gC h (yD Za [0, 1, 2, 3, 4, 5, 6, 7, 8, 9, 10, 11, 12] (Zd kk) (ym rfl rfl (ym rfl rfl (yp rfl (.pO (k - 1) (.sub rfl rfl)) (ym rfl rfl (ym rfl rfl (yp rfl (.indexAddr rfl rfl (Gt _ _ _ _ _ oo)) ?_))))))); clear h
   refine Zm rfl kk rfl mm (cells_lt (k := 3) dd (fun _ => rfl) la k oo) isAgg56 sizeOf56 (Zr (k := 3) (fun _ => rfl) ((fun _ => rfl)) la FT0 k oo) (.inl rfl) dd ?_
   refine ym rfl rfl (yp rfl (Pure1.cast (v' := .int .i64 (((k) % 13 : Nat) : Int)) (.binOp rfl rfl (fun _ => Vg _ _ _ _ _ dd)) (by rw [show (13 : Int) = ((13 : Nat) : Int) from rfl, Yg])) (yf [_] rfl rfl call67 (Zkx ((((k) % 13 : Nat) : Int)) oo oo) ?_)); rintro v22 Ψ22 ⟨ad22, c22, bd22, d22, rfl, hle22, hlf22, rfl⟩
   have hl22 := Zw ((((k) % 13 : Nat) : Int)) oo oo
   refine yf [_, _] rfl rfl call70 (Zjy _ _ _ _ _ _ _ _ ((la.getD k FT0).x) ((((((k) % 13 : Nat) : Int) : Int) : Rat)) oo oo) ?_; rintro v23 Ψ23 ⟨ad23, c23, bd23, d23, rfl, hle23, hlf23, rfl⟩
   have hl23 := Qf ((la.getD k FT0).x) ((((((k) % 13 : Nat) : Int) : Int) : Rat))
   refine yp rfl (.indexAddr rfl rfl (Gt _ _ _ _ _ oo)) ?_
   refine Gf (b := b5) (cs := (cellsOf Jr l).toArray) (cs' := (cellsOf Jr (l.set (k - 1) (FT.mk (((la.getD k FT0).x) * ((((((k) % 13 : Nat) : Int) : Int) : Rat))) ad23 c23 bd23 d23 hle23 hlf23))).toArray) (v := Jr (FT.mk (((la.getD k FT0).x) * ((((((k) % 13 : Nat) : Int) : Int) : Rat))) ad23 c23 bd23 d23 hle23 hlf23)) rfl kk rfl rfl (Yd (k := 3) (fun _ => rfl) l (k - 1) oo (FT.mk (((la.getD k FT0).x) * ((((((k) % 13 : Nat) : Int) : Int) : Rat))) ad23 c23 bd23 d23 hle23 hlf23)) uu sizeOf56 rfl (Vv (k := 3) (fun _ => rfl) l (k - 1) oo) rfl ?_
   refine yn (zr (zm rfl (zp (.pN (k + 1) (.add rfl rfl)) (za rfl (zn ?_))))); intro a w h
   replace h := h.derive (R := AllF (l.set (k - 1) (FT.mk (((la.getD k FT0).x) * ((((((k) % 13 : Nat) : Int) : Int) : Rat))) ad23 c23 bd23 d23 hle23 hlf23))) (fun X hX => AllF.set (hX _ mm) (hX _ mm) (hX _ mm))
   have hx2 : xs (l.set (k - 1) (FT.mk (((la.getD k FT0).x) * ((((((k) % 13 : Nat) : Int) : Int) : Rat))) ad23 c23 bd23 d23 hle23 hlf23)) = dyX (xs la) (k + 1) := by rw [Ze2, hxl, dyX, if_pos hpos, ← Yz]
   exact ⟨k + 1, ⟨oo, l.set (k - 1) (FT.mk (((la.getD k FT0).x) * ((((((k) % 13 : Nat) : Int) : Int) : Rat))) ad23 c23 bd23 d23 hle23 hlf23), ⟨by rw [List.length_set]; exact hln, hx2⟩, by exact (h.factsSub (by simp)).sub sA⟩, oo⟩
  ·
   skip
   have hpos : ¬ k % 13 > 0 := dF hc12
   refine wpList_nil ?_
   refine cW ?_
   refine Zj h rfl ?_
   refine gC h (zk (zr (zm rfl (zp (.pN (k + 1) (.add rfl rfl)) (za rfl (zn ?_)))))); clear h; intro a w h
   skip
   exact ⟨k + 1, ⟨oo, l, ⟨hln, by rw [hxl, dyX, if_neg hpos]⟩, by exact (h.factsSub (by simp)).sub sA⟩, oo⟩
 ·
  skip
  have heq_k : 169 = k := dF hc7
  subst heq_k
  replace h := h.shareAll hS (cellsOf Jr l) rfl
  refine gC h (ze (zS (zm rfl (za rfl (zn (zt ?_)))))); clear h; intro a w h
  refine Qg (Ψ := [Row (some ⟨b5, 0, none⟩) (cellsOf Jr l), AllF l]) h (Zc h rfl (.tmp rfl)) ?_ ss
  exact ⟨b5, l, rfl, ha.dyP hda (by rw [hxl]; exact Zlz _ _) (by rw [hxl]; exact Zyn ha.len), by rw [hxl]; exact Zyn ha.len, rfl⟩
theorem C_tAt (b1 : Nat) (la : List FT) (da Ka : Nat) (ha : Tb da Ka (xs la)) (hda : da ≤ 12) (hka : Ka ≤ 100000000) (hka2 : Ka ≤ 1000000) (p1 p3 q1 q3 : Option Addr) (p2 p4 q2 q4 : Nat) (x y : Rat) (Kx : Nat) (hx : Qc x ≤ Kx) (hy : Qc y ≤ Kx) (hkx : Kx ≤ 10000) : Ctr Tryz.prog 109 [.slice (some ⟨b1, 0, none⟩) 169 169, fV x p1 p2 p3 p4, fV y q1 q2 q3 q4] [Row (some ⟨b1, 0, none⟩) (cellsOf Jr la), AllF la, Row p1 (List.map Zv (dg x.num.natAbs)), Row p3 (List.map Zv (dg (x.den - 1))), Row q1 (List.map Zv (dg y.num.natAbs)), Row q3 (List.map Zv (dg (y.den - 1)))] (PostF (evP (pol (xs la)) x y)) := by
 refine fn_intro func109 rfl ntmps109 nb ?_
 intro S w0 a hS h
 refine gC h (zS (zx rfl fun b4 => zx rfl fun b5 => zz Zos fun b6 => zn (zS (zz Zos fun b7 => zn (zs (zS (za rfl (zn (zb ?_))))))))); clear h; intro a w h
 replace h := h.derive (R := Row none (List.map Zv (dg ((0 : Rat).den - 1)))) (fun X _ => f0r.2)
 replace h := h.derive (R := Row none (List.map Zv (dg (0 : Rat).num.natAbs))) (fun X _ => f0r.1)
 refine Zf (fun (k : Nat) a w => k ≤ 169 ∧ ∃ s1 s2 s3 s4, ((dg (atF (xs la) x y k).num.natAbs).length ≤ s2 ∧ (dg ((atF (xs la) x y k).den - 1)).length ≤ s4) ∧ St 58 S w0 [(0, .slice (some ⟨b1, 0, none⟩) 169 169), (4, pB b4), (5, pB b5), (6, pB b6), (7, pB b7), (8, nI k)] [(b7, bV (.agg #[.bool (decide ((atF (xs la) x y k).num < 0)), .slice s1 (dg (atF (xs la) x y k).num.natAbs).length s2, .slice s3 (dg ((atF (xs la) x y k).den - 1)).length s4]) 56), (b6, bV (.agg #[.bool (decide ((0 : Rat).num < 0)), .slice none (dg (0 : Rat).num.natAbs).length 0, .slice none (dg ((0 : Rat).den - 1)).length 0]) 56), (b5, bV (.agg #[.bool (decide (y.num < 0)), .slice q1 (dg y.num.natAbs).length q2, .slice q3 (dg (y.den - 1)).length q4]) 56), (b4, bV (.agg #[.bool (decide (x.num < 0)), .slice p1 (dg x.num.natAbs).length p2, .slice p3 (dg (x.den - 1)).length p4]) 56)] [Row s1 (List.map Zv (dg (atF (xs la) x y k).num.natAbs)), Row s3 (List.map Zv (dg ((atF (xs la) x y k).den - 1))), Row (some ⟨b1, 0, none⟩) (cellsOf Jr la), AllF la, Row p1 (List.map Zv (dg x.num.natAbs)), Row p3 (List.map Zv (dg (x.den - 1))), Row q1 (List.map Zv (dg y.num.natAbs)), Row q3 (List.map Zv (dg (y.den - 1)))] a w) (fun k => 169 - k) 0 (⟨Nat.zero_le _, none, 0, none, 0, ⟨FT0.h1, FT0.h2⟩, by rw [show atF (xs la) x y 0 = 0 from rfl]; exact (h.factsSub (by simp)).sub (Zen ⟨rfl, rfl, rfl, rfl, rfl, rfl, trivial⟩)⟩) ?_; clear h
 rintro k a w ⟨hi_k, s1, s2, s3, s4, ⟨hs2, hs4⟩, h⟩
 refine gC h (zs (zS (zm rfl (zp (.lss rfl rfl) (zn ?_))))); clear h; intro a w h
 refine cW ?_
 refine Zb h rfl (fun hc13 => ?_) (fun hc13 => ?_)
 ·
  skip
  have hlt_k : k < 169 := dT hc13
  have hsm := Zlk (fun k hk => ha.siz hk) hx hy k oo
  have hsn := Nat.mul_le_mul (show k ≤ 169 by omega) (Nat.le_refl (Ka + 24 * Kx + 10))
  have hn1 := ha.lenl
  have hm1 : la.getD k FT0 ∈ la := getD_mem _ oo
  have hz1 := ha.sizl (k := k) oo
  replace h := h.derive (R := Row (la.getD k FT0).a2 (List.map Zv (dg ((la.getD k FT0).x.den - 1)))) (fun X hX => AllF.get2 (hX _ mm) hm1)
  replace h := h.derive (R := Row (la.getD k FT0).a1 (List.map Zv (dg (la.getD k FT0).x.num.natAbs))) (fun X hX => AllF.get1 (hX _ mm) hm1)
  refine gC h (zk (zs (zb (zS (zm rfl (zm rfl (zp (.indexAddr rfl rfl (Gt _ _ _ _ _ oo)) (zD rfl mm (cells_lt (k := 3) dd (fun _ => rfl) la k oo) isAgg56 sizeOf56 (Zr (k := 3) (fun _ => rfl) ((fun _ => rfl)) la FT0 k oo) (.inl rfl) ?_))))))))
  refine zz Zos fun b9 => zt' rfl rfl Ja uu sizeOf56 rfl nb rfl ?_
  refine zn (zs (zS (za rfl (zn (zb ?_))))); intro a w h
  refine Zf (fun (i : Nat) a w => ∃ u1 u2 u3 u4, (i ≤ k / 13 ∧ (dg ((la.getD k FT0).x * x ^ i).num.natAbs).length ≤ u2 ∧ (dg (((la.getD k FT0).x * x ^ i).den - 1)).length ≤ u4) ∧ St 58 S w0 [(0, .slice (some ⟨b1, 0, none⟩) 169 169), (4, pB b4), (5, pB b5), (6, pB b6), (7, pB b7), (8, nI k), (9, pB b9), (10, nI i)] [(b9, bV (.agg #[.bool (decide (((la.getD k FT0).x * x ^ i).num < 0)), .slice u1 (dg ((la.getD k FT0).x * x ^ i).num.natAbs).length u2, .slice u3 (dg (((la.getD k FT0).x * x ^ i).den - 1)).length u4]) 56), (b7, bV (.agg #[.bool (decide ((atF (xs la) x y k).num < 0)), .slice s1 (dg (atF (xs la) x y k).num.natAbs).length s2, .slice s3 (dg ((atF (xs la) x y k).den - 1)).length s4]) 56), (b6, bV (.agg #[.bool (decide ((0 : Rat).num < 0)), .slice none (dg (0 : Rat).num.natAbs).length 0, .slice none (dg ((0 : Rat).den - 1)).length 0]) 56), (b5, bV (.agg #[.bool (decide (y.num < 0)), .slice q1 (dg y.num.natAbs).length q2, .slice q3 (dg (y.den - 1)).length q4]) 56), (b4, bV (.agg #[.bool (decide (x.num < 0)), .slice p1 (dg x.num.natAbs).length p2, .slice p3 (dg (x.den - 1)).length p4]) 56)] [Row u1 (List.map Zv (dg ((la.getD k FT0).x * x ^ i).num.natAbs)), Row u3 (List.map Zv (dg (((la.getD k FT0).x * x ^ i).den - 1))), Row (la.getD k FT0).a1 (List.map Zv (dg ((la.getD k FT0).x).num.natAbs)), Row (la.getD k FT0).a2 (List.map Zv (dg (((la.getD k FT0).x).den - 1))), Row s1 (List.map Zv (dg (atF (xs la) x y k).num.natAbs)), Row s3 (List.map Zv (dg ((atF (xs la) x y k).den - 1))), Row (some ⟨b1, 0, none⟩) (cellsOf Jr la), AllF la, Row p1 (List.map Zv (dg x.num.natAbs)), Row p3 (List.map Zv (dg (x.den - 1))), Row q1 (List.map Zv (dg y.num.natAbs)), Row q3 (List.map Zv (dg (y.den - 1)))] a w) (fun i => k / 13 - i) (0) (⟨(la.getD k FT0).a1, (la.getD k FT0).c1, (la.getD k FT0).a2, (la.getD k FT0).c2, ⟨Nat.zero_le _, by rw [Rat.pow_zero, Rat.mul_one]; exact (la.getD k FT0).h1, by rw [Rat.pow_zero, Rat.mul_one]; exact (la.getD k FT0).h2⟩, by rw [show (la.getD k FT0).x * x ^ 0 = (la.getD k FT0).x from by rw [Rat.pow_zero, Rat.mul_one]]; exact (h.factsSub (by simp)).sub (Zen ⟨rfl, rfl, rfl, rfl, rfl, rfl, rfl, rfl, trivial⟩)⟩) ?_; clear h
  rintro i a w ⟨u1, u2, u3, u4, ⟨hi, hu2, hu4⟩, h⟩
  have hpx := Zcs x i Kx 12 hx oo
  have hmx := Qf (la.getD k FT0).x (x ^ i)
  refine gC h (zs (zS (zm rfl (zm rfl (zp (Pure1.cast (v' := .int .i64 (((k) / 13 : Nat) : Int)) (.binOp rfl rfl (fun _ => Vp _ _ _ _ _ dd)) (by rw [show (13 : Int) = ((13 : Nat) : Int) from rfl, Yh, wrap_i64 _ oo oo])) (zp (.lss rfl rfl) ?_)))))); clear h; intro a w h
  refine Zg h (fun hc23 h => ?_) (fun hc23 h => ?_)
  focus
   have hlt_i : i < k / 13 := dT hc23
   refine gL h (zm rfl (zq 24 rfl rfl (.move rfl) (zq 24 rfl rfl (.move rfl) (zq 24 rfl rfl (.indexAddr rfl rfl (Gt _ _ _ _ _ oo)) ?_)))); clear h; intro a w h
   refine Ze 24 h rfl rfl (Zaf h rfl mm (cells_lt (k := 3) dd (fun _ => rfl) la k oo) isAgg56 sizeOf56 (Zr (k := 3) (fun _ => rfl) ((fun _ => rfl)) la FT0 k oo) (.inl rfl) dd ?_); clear h; intro a h
   refine Ze 24 h rfl rfl (Yr h (vs := [_]) rfl call86 (Zcf ((la.getD k FT0).x) _ _ _ _) dd ?_); clear h; intro a w h
   refine gL h (zq 24 rfl rfl (.neq rfl rfl) ?_); clear h; intro a w h
   refine Zg h (fun hc30 h => ?_) (fun hc30 h => ?_)
   ·
    skip
    skip
    refine gL h (zp (.pickT rfl rfl) (zn ?_)); clear h; intro a w h
    refine cW ?_
    refine Zq h rfl ?_
    refine gC h (zk (zs (zb (zr (zd rfl mr isAgg56 sizeOf56 Zo ?_)))))
    refine zd rfl mr isAgg56 sizeOf56 Zo ?_
    refine zf [_, _] rfl call70 (Zjy _ _ _ _ _ _ _ _ ((la.getD k FT0).x * x ^ i) x oo oo) ?_; rintro v36 Ψ36 ⟨ad36, c36, bd36, d36, rfl, hle36, hlf36, rfl⟩
    have hl36 := Qf ((la.getD k FT0).x * x ^ i) x
    refine zt' rfl rfl Ja uu sizeOf56 rfl nb rfl ?_; intro a w h
    refine gL h (zn (zr (zm rfl (zp (.pN (i + 1) (.add rfl rfl)) (za rfl (zn ?_)))))); clear h; intro a w h
    rw [show (la.getD k FT0).x * x ^ i * x = (la.getD k FT0).x * x ^ (i + 1) from by rw [Rat.pow_succ, Rat.mul_assoc]] at h hle36 hlf36
    exact ⟨i + 1, ⟨ad36, c36, bd36, d36, ⟨oo, hle36, hlf36⟩, by exact (h.factsSub (by simp)).sub sA⟩, oo⟩
   have hz0 := Qds hc30
   have ei : (la.getD k FT0).x * x ^ i = (la.getD k FT0).x * x ^ (k / 13) := by rw [hz0]; grind
   rw [ei] at h hu2 hu4
   refine gL h (zp (.pickT rfl rfl) (zn ?_)); clear h; intro a w h
  rotate_left
  focus
   have ei : i = k / 13 := dF hc23
   rw [ei] at h hu2 hu4
   refine gL h (zm rfl (zo 24 rfl rfl rfl (zo 24 rfl rfl rfl (zo 24 rfl rfl rfl (zo 24 rfl rfl rfl (zo 24 rfl rfl rfl (zo 24 rfl rfl rfl (zp (.pickF rfl rfl) (zn ?_))))))))); clear h; intro a w h
  all_goals
   refine cW ?_
   refine Zj h rfl ?_
   refine gC h (ze (zs (zS (za rfl (zn (zb ?_)))))); clear h; intro a w h
   refine Zf (fun (j : Nat) a w => ∃ v1 v2 v3 v4, (j ≤ k % 13 ∧ (dg ((la.getD k FT0).x * x ^ (k / 13) * y ^ j).num.natAbs).length ≤ v2 ∧ (dg (((la.getD k FT0).x * x ^ (k / 13) * y ^ j).den - 1)).length ≤ v4) ∧ St 58 S w0 [(0, .slice (some ⟨b1, 0, none⟩) 169 169), (4, pB b4), (5, pB b5), (6, pB b6), (7, pB b7), (8, nI k), (9, pB b9), (11, nI j)] [(b9, bV (.agg #[.bool (decide (((la.getD k FT0).x * x ^ (k / 13) * y ^ j).num < 0)), .slice v1 (dg ((la.getD k FT0).x * x ^ (k / 13) * y ^ j).num.natAbs).length v2, .slice v3 (dg (((la.getD k FT0).x * x ^ (k / 13) * y ^ j).den - 1)).length v4]) 56), (b7, bV (.agg #[.bool (decide ((atF (xs la) x y k).num < 0)), .slice s1 (dg (atF (xs la) x y k).num.natAbs).length s2, .slice s3 (dg ((atF (xs la) x y k).den - 1)).length s4]) 56), (b6, bV (.agg #[.bool (decide ((0 : Rat).num < 0)), .slice none (dg (0 : Rat).num.natAbs).length 0, .slice none (dg ((0 : Rat).den - 1)).length 0]) 56), (b5, bV (.agg #[.bool (decide (y.num < 0)), .slice q1 (dg y.num.natAbs).length q2, .slice q3 (dg (y.den - 1)).length q4]) 56), (b4, bV (.agg #[.bool (decide (x.num < 0)), .slice p1 (dg x.num.natAbs).length p2, .slice p3 (dg (x.den - 1)).length p4]) 56)] [Row v1 (List.map Zv (dg ((la.getD k FT0).x * x ^ (k / 13) * y ^ j).num.natAbs)), Row v3 (List.map Zv (dg (((la.getD k FT0).x * x ^ (k / 13) * y ^ j).den - 1))), Row (la.getD k FT0).a1 (List.map Zv (dg ((la.getD k FT0).x).num.natAbs)), Row (la.getD k FT0).a2 (List.map Zv (dg (((la.getD k FT0).x).den - 1))), Row s1 (List.map Zv (dg (atF (xs la) x y k).num.natAbs)), Row s3 (List.map Zv (dg ((atF (xs la) x y k).den - 1))), Row (some ⟨b1, 0, none⟩) (cellsOf Jr la), AllF la, Row p1 (List.map Zv (dg x.num.natAbs)), Row p3 (List.map Zv (dg (x.den - 1))), Row q1 (List.map Zv (dg y.num.natAbs)), Row q3 (List.map Zv (dg (y.den - 1)))] a w) (fun j => k % 13 - j) (0) (⟨u1, u2, u3, u4, ⟨Nat.zero_le _, by rw [Rat.pow_zero, Rat.mul_one]; exact hu2, by rw [Rat.pow_zero, Rat.mul_one]; exact hu4⟩, by rw [show (la.getD k FT0).x * x ^ (k / 13) * y ^ 0 = (la.getD k FT0).x * x ^ (k / 13) from by rw [Rat.pow_zero, Rat.mul_one]]; exact (h.factsSub (by simp)).sub (Zen ⟨rfl, rfl, rfl, rfl, rfl, rfl, rfl, rfl, trivial⟩)⟩) ?_; clear h
   rintro j a w ⟨v1, v2, v3, v4, ⟨hj, hv2, hv4⟩, h⟩
   have hpx := Zcs x (k / 13) Kx 12 hx oo
   have hmx := Qf (la.getD k FT0).x (x ^ (k / 13))
   have hpy := Zcs y j Kx 12 hy oo
   have hmy := Qf ((la.getD k FT0).x * x ^ (k / 13)) (y ^ j)
   refine gC h (zs (zS (zm rfl (zm rfl (zp (Pure1.cast (v' := .int .i64 (((k) % 13 : Nat) : Int)) (.binOp rfl rfl (fun _ => Vg _ _ _ _ _ dd)) (by rw [show (13 : Int) = ((13 : Nat) : Int) from rfl, Yg])) (zp (.lss rfl rfl) ?_)))))); clear h; intro a w h
   refine Zg h (fun hc40 h => ?_) (fun hc40 h => ?_)
   focus
    have hlt_j : j < k % 13 := dT hc40
    refine gL h (zm rfl (zq 41 rfl rfl (.move rfl) (zq 41 rfl rfl (.move rfl) (zq 41 rfl rfl (.indexAddr rfl rfl (Gt _ _ _ _ _ oo)) ?_)))); clear h; intro a w h
    refine Ze 41 h rfl rfl (Zaf h rfl mm (cells_lt (k := 3) dd (fun _ => rfl) la k oo) isAgg56 sizeOf56 (Zr (k := 3) (fun _ => rfl) ((fun _ => rfl)) la FT0 k oo) (.inl rfl) dd ?_); clear h; intro a h
    refine Ze 41 h rfl rfl (Yr h (vs := [_]) rfl call86 (Zcf ((la.getD k FT0).x) _ _ _ _) dd ?_); clear h; intro a w h
    refine gL h (zq 41 rfl rfl (.neq rfl rfl) ?_); clear h; intro a w h
    refine Zg h (fun hc47 h => ?_) (fun hc47 h => ?_)
    ·
     skip
     skip
     refine gL h (zp (.pickT rfl rfl) (zn ?_)); clear h; intro a w h
     refine cW ?_
     refine Zq h rfl ?_
     refine gC h (zk (zs (zb (zr (zd rfl mr isAgg56 sizeOf56 Zo ?_)))))
     refine zd rfl mr isAgg56 sizeOf56 Zo ?_
     refine zf [_, _] rfl call70 (Zjy _ _ _ _ _ _ _ _ ((la.getD k FT0).x * x ^ (k / 13) * y ^ j) y oo oo) ?_; rintro v53 Ψ53 ⟨ad53, c53, bd53, d53, rfl, hle53, hlf53, rfl⟩
     have hl53 := Qf ((la.getD k FT0).x * x ^ (k / 13) * y ^ j) y
     refine zt' rfl rfl Ja uu sizeOf56 rfl nb rfl ?_; intro a w h
     refine gL h (zn (zr (zm rfl (zp (.pN (j + 1) (.add rfl rfl)) (za rfl (zn ?_)))))); clear h; intro a w h
     rw [show (la.getD k FT0).x * x ^ (k / 13) * y ^ j * y = (la.getD k FT0).x * x ^ (k / 13) * y ^ (j + 1) from by rw [Rat.pow_succ, Rat.mul_assoc]] at h hle53 hlf53
     exact ⟨j + 1, ⟨ad53, c53, bd53, d53, ⟨oo, hle53, hlf53⟩, by exact (h.factsSub (by simp)).sub sA⟩, oo⟩
    have hz0 := Qds hc47
    have ei : (la.getD k FT0).x * x ^ (k / 13) * y ^ j = (la.getD k FT0).x * x ^ (k / 13) * y ^ (k % 13) := by rw [hz0]; grind
    rw [ei] at h hv2 hv4 hmy
    refine gL h (zp (.pickT rfl rfl) (zn ?_)); clear h; intro a w h
   rotate_left
   focus
    have ei : j = k % 13 := dF hc40
    rw [ei] at h hv2 hv4 hmy hpy
    refine gL h (zm rfl (zo 41 rfl rfl rfl (zo 41 rfl rfl rfl (zo 41 rfl rfl rfl (zo 41 rfl rfl rfl (zo 41 rfl rfl rfl (zo 41 rfl rfl rfl (zp (.pickF rfl rfl) (zn ?_))))))))); clear h; intro a w h
   all_goals
    refine cW ?_
    refine Zj h rfl ?_
    refine gC h (ze (zr (zd rfl mr isAgg56 sizeOf56 Zo ?_)))
    refine zd rfl mr isAgg56 sizeOf56 Zo ?_
    refine zf [_, _] rfl call65 (Ztg _ _ _ _ _ _ _ _ (atF (xs la) x y k) ((la.getD k FT0).x * x ^ (k / 13) * y ^ (k % 13)) oo oo) ?_; rintro v56 Ψ56 ⟨ad56, c56, bd56, d56, rfl, hle56, hlf56, rfl⟩
    have hl56 := Yw (atF (xs la) x y k) ((la.getD k FT0).x * x ^ (k / 13) * y ^ (k % 13))
    refine zt' rfl rfl Ja uu sizeOf56 rfl nb rfl ?_; intro a w h
    refine gL h (zn (zr (zm rfl (zp (.pN (k + 1) (.add rfl rfl)) (za rfl (zn ?_)))))); clear h; intro a w h
    rw [show atF (xs la) x y k + (la.getD k FT0).x * x ^ (k / 13) * y ^ (k % 13) = atF (xs la) x y (k + 1) from by rw [atF, ← Yz]] at h hle56 hlf56
    exact ⟨k + 1, ⟨oo, ad56, c56, bd56, d56, ⟨hle56, hlf56⟩, by exact ((h.drop sl).factsSub (by simp)).sub sA⟩, oo⟩
 ·
  skip
  have heq_k : 169 = k := dF hc13
  subst heq_k
  have hsm := Zlk (fun k hk => ha.siz hk) hx hy 169 oo
  refine gC h (ze (zS (zd rfl mr isAgg56 sizeOf56 Zo ?_)))
  refine zt' rfl rfl Ja uu sizeOf56 rfl nb rfl ?_; intro a w h
  refine wpList_nil (wp_ret ?_)
  refine Qg (Ψ := [Row s1 (List.map Zv (dg (atF (xs la) x y 169).num.natAbs)), Row s3 (List.map Zv (dg ((atF (xs la) x y 169).den - 1)))]) h (Zc h rfl (.cell rfl mr isAgg56 sizeOf56 Zo)) ?_ ss
  rw [← Qhh ha.len]; exact ⟨s1, s2, s3, s4, rfl, hs2, hs4, rfl⟩
end
section
theorem Qdl {X : List Rat} (hX : X.length = 169) {N : Nat} (hN : Gl (norm (pol X)) = (N : Int)) : ∃ k, k < 169 ∧ X.getD k 0 ≠ 0 ∧ k / 13 + k % 13 = N := by
 unfold Gl at hN
 split at hN
 · omega
 ·
  rename_i hl
  have hu : (norm (pol X)).getD ((norm (pol X)).length - 1) T0 ∈ norm (pol X) := getD_mem _ oo
  generalize (norm (pol X)).getD ((norm (pol X)).length - 1) T0 = u at hN hu
  obtain ⟨hc, hne⟩ := Zay hu
  obtain ⟨t, ht, e1, e2⟩ := Zah hc
  obtain ⟨k, hk, rfl⟩ := Zip ht
  have h1 := Zdd (Qr (pol X)) hu
  rw [Kq, e1, e2] at h1
  rw [hX] at hk
  have h2 := Ziq (X := X) (i := k / 13) (j := k % 13) (Nat.mod_lt _ dd)
  rw [show 13 * (k / 13) + k % 13 = k by omega] at h2
  refine ⟨k, hk, ?_, ?_⟩
  · rw [← h2]; simp only at h1; rw [h1]; exact hne
  · simp only at e1 e2; omega
theorem Qef {A B : List Rat} (hA : A.length = 169) (hB : B.length = 169) {M N : Nat} (h1 : Gl (norm (pol A)) = (M : Int)) (h2 : Gl (norm (pol B)) = (N : Int)) (h : 12 < M + N) : Qeg A B := by
 obtain ⟨k, a1, a2, a3⟩ := Qdl hA h1
 obtain ⟨m, b1, b2, b3⟩ := Qdl hB h2
 exact ⟨k, m, a1, b1, a2, b2, oo⟩
theorem Zh4 {p : List Tm} {N : Nat} (h : Gl p = (N : Int)) : p ≠ [] := fun e => by rw [e, Zl3] at h; omega
theorem Zso {p : List Tm} {D : Nat} (h : Gl (norm p) = (D : Int)) : ∀ i, Gl (norm (Yb p i)) = ((i * D : Nat) : Int)
 | 0 => by rw [Nat.zero_mul]; show Gl (norm [⟨0, 0, 1⟩]) = 0; decide +kernel
 | i + 1 => by
  have ih := Zso h i
  rw [Yb, Ji (Eqv.mul (Eqv.nrm (Yb p i)).symm (Eqv.nrm p).symm), Zsp (Qr _) (Qr _) (Zh4 ih) (Zh4 h), ih, h, Nat.add_mul]; omega
theorem Tb.exact {d K N : Nat} {X : List Rat} (h : Tb d K X) (hN : Gl (norm (pol X)) ≤ (N : Int)) : Tb N K X :=
 Tb.of_eqv h.len (Eqv.nrm (pol X)).symm (Zzo (Qr _) hN) (h.hgt.nrm)
def PostX (G : Prop) (d K : Nat) (p : List Tm) (v : Value) (Ψ : List Zy) : Prop := ∃ b l e, v = .tuple #[.slice (some ⟨b, 0, none⟩) 169 169, .int .i64 e] ∧ (e = 0 ∧ G ∧ Tb d K (xs l) ∧ Eqv (pol (xs l)) p ∨ e = 9 ∧ ¬ G ∧ l.length = 169 ∧ Eqv (pol (xs l)) []) ∧ Ψ = [Row (some ⟨b, 0, none⟩) (cellsOf Jr l), AllF l]
theorem Zzv (b1 : Nat) (la : List FT) (da Ka : Nat) (ha : Tb da Ka (xs la)) (hda : da ≤ 12) (hka : Ka ≤ 100000000) (b2 : Nat) (lb : List FT) (db Kb : Nat) (hb : Tb db Kb (xs lb)) (hdb : db ≤ 12) (hkb : Kb ≤ 100000000) (hbad : Qeg (xs la) (xs lb)) : Ctr Tryz.prog 101 [.slice (some ⟨b1, 0, none⟩) 169 169, .slice (some ⟨b2, 0, none⟩) 169 169] [Row (some ⟨b1, 0, none⟩) (cellsOf Jr la), AllF la, Row (some ⟨b2, 0, none⟩) (cellsOf Jr lb), AllF lb] PostE :=
 Za0 (Zzu b1 la da Ka ha hda oo b2 lb db Kb hb hdb oo) (fun v Ψ ⟨b, l, e, h1, h2, h3⟩ => by
  rcases h2 with ⟨_, h4, _⟩ | ⟨rfl, _, h4, h5⟩
  · exact (h4.fin hbad).elim
  · exact ⟨b, l, h1, h4, h5, h3⟩)
theorem Qht (b1 : Nat) (la : List FT) (da Ka : Nat) (ha : Tb da Ka (xs la)) (hda : da ≤ 12) (hka : Ka ≤ 100000000) (b2 : Nat) (lb : List FT) (db Kb : Nat) (hb : Tb db Kb (xs lb)) (hdb : db ≤ 12) (hkb : Kb ≤ 100000000) (G : Prop) (hG : G ∧ da + db ≤ 12 ∨ ¬ G ∧ Qeg (xs la) (xs lb)) : Ctr Tryz.prog 101 [.slice (some ⟨b1, 0, none⟩) 169 169, .slice (some ⟨b2, 0, none⟩) 169 169] [Row (some ⟨b1, 0, none⟩) (cellsOf Jr la), AllF la, Row (some ⟨b2, 0, none⟩) (cellsOf Jr lb), AllF lb] (PostX G (da + db) (Ka + Kb) (Jg (pol (xs la)) (pol (xs lb)))) := by
 rcases hG with ⟨hg, hd⟩ | ⟨hg, hb9⟩
 · exact Za0 (Zs9 b1 la da Ka ha hda oo b2 lb db Kb hb hdb oo hd) (fun v Ψ ⟨b, l, h1, h2, h3, h4⟩ => ⟨b, l, 0, h1, .inl ⟨rfl, hg, h2, h3⟩, h4⟩)
 · exact Za0 (Zzv b1 la da Ka ha hda hka b2 lb db Kb hb hdb hkb hb9) (fun v Ψ ⟨b, l, h1, h2, h3, h4⟩ => ⟨b, l, 9, h1, .inr ⟨rfl, hg, h2, h3⟩, h4⟩)
end
section
def Zb5 (v : Value) (Ψ : List Zy) : Prop := ∃ ad c, v = .slice ad 0 c ∧ Ψ = [Row ad (cellsOf Zp [])]
def Qei (v : Value) (Ψ : List Zy) : Prop := ∃ ad c, v = .tuple #[.slice ad 0 c, .int .i64 0] ∧ Ψ = [Row ad (cellsOf Zp [])]
theorem Zjx : Ctr Tryz.prog 81 [.slice none 0 0] [Row none (cellsOf Zp [])] Zb5 := by
 have h := Zgc (Gi [] none 0 1 (fun _ h => nomatch h) (fun _ h => nomatch h) dd dd)
 rw [Qw] at h; exact h
theorem Zu9 (ad : Option Addr) (c : Nat) : Ctr Tryz.prog 82 [.slice ad 0 c] [Row ad (cellsOf Zp [])] Zb5 := by
 have h := Xk [] ad c 12 1 (Pq.nil 12) dd dd
 rw [Qw] at h; exact h
theorem C_Dx0 (ad : Option Addr) (c : Nat) : Ctr Tryz.prog 76 [.slice ad 0 c] [Row ad (cellsOf Zp [])] Zb5 := by
 have h := Zdl [] ad c 12 1 (Pq.nil 12) dd dd
 rw [show dxL [] = [] from rfl, Qw] at h; exact h
theorem C_Dy0 (ad : Option Addr) (c : Nat) : Ctr Tryz.prog 97 [.slice ad 0 c] [Row ad (cellsOf Zp [])] Zb5 := by
 have h := Zds [] ad c 12 1 (Pq.nil 12) dd dd
 rw [show dyL [] = [] from rfl, Qw] at h; exact h
theorem C_Add0 (ad adb : Option Addr) (c cb : Nat) : Ctr Tryz.prog 73 [.slice ad 0 c, .slice adb 0 cb] [Row ad (cellsOf Zp []), Row adb (cellsOf Zp [])] Zb5 := by
 have h := Yv [] [] ad adb c cb 12 12 1 1 (Pq.nil 12) (Pq.nil 12) dd dd dd dd
 rw [List.append_nil, Qw] at h; exact h
theorem Zze (ad : Option Addr) (c : Nat) (w : World) (ty : TypeId) (cs : Array Bool) : (Go.builtin .append #[47, 47] ty cs #[.slice none 0 0, .slice ad 0 c]).run Tryz.prog w = .ok (.value (.slice none 0 0)) w := by
 cases ad <;> simp [go_sem]
theorem Zqp (Z : List Tz) (ad : Option Addr) (c : Nat) (hn : Z.length ≤ 100000) (hz : Zx Z ≠ 0) (g : Nat) (cb : List Value) : Ctr Tryz.prog 137 [.slice ad Z.length c, .func (.func g) #[] cb.toArray] [Row ad (cellsOf Qy Z)] Zb5 := by
 refine fn_intro func137 rfl ntmps137 nb ?_
 intro S w0 a hS h
 replace h := h.derive (R := Row none (cellsOf Zp [])) (fun X _ hne => absurd rfl hne)
 refine gC h (zS (za rfl (zn (zS (za rfl (zn (zs (zS (zm rfl (zw [_] rfl call82 (Yo Z _ _ hn hz) (zp (.builtin [_] rfl (Zk _ _ _)) (zm rfl (zn (zb ?_)))))))))))))); clear h; intro a w h
 refine Zf (fun (k : Nat) a w => St 24 S w0 [(1, .func (.func g) #[] cb.toArray), (4, .slice none 0 0), (5, .slice none 0 0), (9, .slice none 0 0), (10, nI 0), (11, nI 0)] [] [Row none (cellsOf Zp []), Row ad (cellsOf Qy Z)] a w) (fun k => 0) (0) (by exact h.sub sA) ?_; clear h
 rintro k a w h
 refine gC h (zS (zp (.lss rfl rfl) (zn (zs ?_)))); clear h; intro a w h
 refine Zb h rfl (fun hc12 => (absurd hc12 dd)) (fun hc12 => ?_)
 refine gC h (ze (zS (zm rfl (zf [_] rfl call81 (Zjx) ?_)))); rintro v23 Ψ23 ⟨ad23, c23, rfl, rfl⟩
 refine za rfl (zn (zt ?_)); intro a w h
 refine Qg (Ψ := [Row _ (cellsOf Zp [])]) h (Zc h rfl (.tmp rfl)) ⟨_, _, rfl, rfl⟩ ss
theorem Ztl (Z : List Tz) (ad : Option Addr) (c : Nat) (hn : Z.length ≤ 100000) (hz : Zx Z ≠ 0) (x : Rat) : Ctr Tryz.prog 100 [.slice ad Z.length c, Jo x] [Row ad (cellsOf Qy Z)] Zb5 := by
 refine fn_intro func100 rfl ntmps100 nb ?_
 intro S w0 a hS h
 replace h := h.derive (R := Row none (cellsOf Zp [])) (fun X _ hne => absurd rfl hne)
 refine gC h (zS (zx rfl fun b3 => ?_)); clear h; intro a w h
 replace h := h.shareAll hS ((Value.cells (Jo (x))).toList) rfl
 refine gL h (za rfl (zn (zS (zm rfl (zp (.makeFunc [] [_] rfl rfl) (zf [_, _] rfl call137 (Zqp Z _ _ hn hz 162 [.pointer (some ⟨b3, 0, none⟩)]) ?_)))))); rintro v7 Ψ7 ⟨ad7, c7, rfl, rfl⟩
 refine za rfl (zn (zt ?_)); intro a w h
 refine Qg (Ψ := [Row _ (cellsOf Zp [])]) h (Zc h rfl (.tmp rfl)) ⟨_, _, rfl, rfl⟩ ss
theorem Qey (Z : List Tz) (ad : Option Addr) (c : Nat) (hn : Z.length ≤ 100000) (hz : Zx Z ≠ 0) : Ctr Tryz.prog 104 [.slice ad Z.length c] [Row ad (cellsOf Qy Z)] Zb5 := by
 refine fn_intro func104 rfl ntmps104 nb ?_
 intro S w0 a hS h
 replace h := h.derive (R := Row none (cellsOf Zp [])) (fun X _ hne => absurd rfl hne)
 refine gC h (zS (za rfl (zn (zS (zm rfl (zv [_] rfl call45 (Vw _ oo oo) ?_))))))
 have hl4 := Zw ((-1)) oo oo
 refine zf [_, _] rfl call100 (Ztl Z _ _ hn hz ((-1 : Int) : Rat)) ?_; rintro v5 Ψ5 ⟨ad5, c5, rfl, rfl⟩
 refine za rfl (zn (zt ?_)); intro a w h
 refine Qg (Ψ := [Row _ (cellsOf Zp [])]) h (Zc h rfl (.tmp rfl)) ⟨_, _, rfl, rfl⟩ ss
theorem C_DxE (Z : List Tz) (ad : Option Addr) (c : Nat) (hn : Z.length ≤ 100000) (hz : Zx Z ≠ 0) : Ctr Tryz.prog 76 [.slice ad Z.length c] [Row ad (cellsOf Qy Z)] Zb5 := by
 refine fn_intro func76 rfl ntmps76 nb ?_
 intro S w0 a hS h
 replace h := h.derive (R := Row none (cellsOf Zp [])) (fun X _ hne => absurd rfl hne)
 refine gC h (zS (za rfl (zn (zS (zm rfl (zf [_, _] rfl call137 (Zqp Z _ _ hn hz 138 []) ?_)))))); rintro v4 Ψ4 ⟨ad4, c4, rfl, rfl⟩
 refine za rfl (zn (zt ?_)); intro a w h
 refine Qg (Ψ := [Row _ (cellsOf Zp [])]) h (Zc h rfl (.tmp rfl)) ⟨_, _, rfl, rfl⟩ ss
theorem C_DyE (Z : List Tz) (ad : Option Addr) (c : Nat) (hn : Z.length ≤ 100000) (hz : Zx Z ≠ 0) : Ctr Tryz.prog 97 [.slice ad Z.length c] [Row ad (cellsOf Qy Z)] Zb5 := by
 refine fn_intro func97 rfl ntmps97 nb ?_
 intro S w0 a hS h
 replace h := h.derive (R := Row none (cellsOf Zp [])) (fun X _ hne => absurd rfl hne)
 refine gC h (zS (za rfl (zn (zS (zm rfl (zf [_, _] rfl call137 (Zqp Z _ _ hn hz 158 []) ?_)))))); rintro v4 Ψ4 ⟨ad4, c4, rfl, rfl⟩
 refine za rfl (zn (zt ?_)); intro a w h
 refine Qg (Ψ := [Row _ (cellsOf Zp [])]) h (Zc h rfl (.tmp rfl)) ⟨_, _, rfl, rfl⟩ ss
theorem C_AddE (Z Y : List Tz) (ad adb : Option Addr) (c cb : Nat) (hn : Z.length ≤ 100000) (hz : Zx Z ≠ 0) (hny : Y.length ≤ 100000) (hzy : Zx Y ≠ 0) : Ctr Tryz.prog 73 [.slice ad Z.length c, .slice adb Y.length cb] [Row ad (cellsOf Qy Z), Row adb (cellsOf Qy Y)] Zb5 := by
 refine fn_intro func73 rfl ntmps73 nb ?_
 intro S w0 a hS h
 replace h := h.derive (R := Row none (cellsOf Zp [])) (fun X _ hne => absurd rfl hne)
 refine gC h (zS (za rfl (zn (zS (zm rfl (zw [_] rfl call82 (Yo Z _ _ hn hz) (zm rfl (zw [_] rfl call82 (Yo Y _ _ hny hzy) ?_))))))))
 refine zp (.builtin [_, _] rfl (fun w ty cs => Zze _ _ w ty cs)) ?_
 refine zf [_] rfl call81 (Zjx) ?_; rintro v10 Ψ10 ⟨ad10, c10, rfl, rfl⟩
 refine za rfl (zn (zt ?_)); intro a w h
 refine Qg (Ψ := [Row _ (cellsOf Zp [])]) h (Zc h rfl (.tmp rfl)) ⟨_, _, rfl, rfl⟩ ss
theorem Qim (Z : List Tz) (ad : Option Addr) (c : Nat) (hn : Z.length ≤ 100000) (hz : Zx Z ≠ 0) (adb : Option Addr) (cb : Nat) : Ctr Tryz.prog 73 [.slice ad Z.length c, .slice adb 0 cb] [Row ad (cellsOf Qy Z), Row adb (cellsOf Zp [])] Zb5 := by
 refine fn_intro func73 rfl ntmps73 nb ?_
 intro S w0 a hS h
 replace h := h.derive (R := Row none (cellsOf Zp [])) (fun X _ hne => absurd rfl hne)
 refine gC h (zS (za rfl (zn (zS (zm rfl (zw [_] rfl call82 (Yo Z _ _ hn hz) (zm rfl (zf [_] rfl call82 (Zu9 _ _) ?_)))))))); rintro v8 Ψ8 ⟨ad8, c8, rfl, rfl⟩
 refine zp (.builtin [_, _] rfl (fun w ty cs => Zze _ _ w ty cs)) ?_
 refine zf [_] rfl call81 (Zjx) ?_; rintro v10 Ψ10 ⟨ad10, c10, rfl, rfl⟩
 refine za rfl (zn (zt ?_)); intro a w h
 refine Qg (Ψ := [Row _ (cellsOf Zp [])]) h (Zc h rfl (.tmp rfl)) ⟨_, _, rfl, rfl⟩ ss
theorem C_SubE (Z Y : List Tz) (ad adb : Option Addr) (c cb : Nat) (hn : Z.length ≤ 100000) (hz : Zx Z ≠ 0) (hny : Y.length ≤ 100000) (hzy : Zx Y ≠ 0) : Ctr Tryz.prog 74 [.slice ad Z.length c, .slice adb Y.length cb] [Row ad (cellsOf Qy Z), Row adb (cellsOf Qy Y)] Zb5 := by
 refine fn_intro func74 rfl ntmps74 nb ?_
 intro S w0 a hS h
 replace h := h.derive (R := Row none (cellsOf Zp [])) (fun X _ hne => absurd rfl hne)
 refine gC h (zS (za rfl (zn (zS (zm rfl (zm rfl (zf [_] rfl call104 (Qey Y _ _ hny hzy) ?_))))))); rintro v7 Ψ7 ⟨ad7, c7, rfl, rfl⟩
 refine zf [_, _] rfl call73 (Qim Z _ _ hn hz _ _) ?_; rintro v8 Ψ8 ⟨ad8, c8, rfl, rfl⟩
 refine za rfl (zn (zt ?_)); intro a w h
 refine Qg (Ψ := [Row _ (cellsOf Zp [])]) h (Zc h rfl (.tmp rfl)) ⟨_, _, rfl, rfl⟩ ss
theorem Zvb (Z : List Tz) (ad : Option Addr) (c : Nat) (hn : Z.length ≤ 100000) (hz : Zx Z ≠ 0) : Ctr Tryz.prog 77 [.slice ad Z.length c] [Row ad (cellsOf Qy Z)] Zb5 := by
 refine fn_intro func77 rfl ntmps77 nb ?_
 intro S w0 a hS h
 replace h := h.derive (R := Row none (cellsOf Zp [])) (fun X _ hne => absurd rfl hne)
 refine gC h (zS (za rfl (zn (zS (zm rfl (zf [_] rfl call76 (C_DxE Z _ _ hn hz) ?_)))))); rintro v4 Ψ4 ⟨ad4, c4, rfl, rfl⟩
 refine zf [_] rfl call76 (C_Dx0 _ _) ?_; rintro v5 Ψ5 ⟨ad5, c5, rfl, rfl⟩
 refine zm rfl (zf [_] rfl call97 (C_DyE Z _ _ hn hz) ?_); rintro v7 Ψ7 ⟨ad7, c7, rfl, rfl⟩
 refine zf [_] rfl call97 (C_Dy0 _ _) ?_; rintro v8 Ψ8 ⟨ad8, c8, rfl, rfl⟩
 refine zf [_, _] rfl call73 (C_Add0 _ _ _ _) ?_; rintro v9 Ψ9 ⟨ad9, c9, rfl, rfl⟩
 refine za rfl (zn (zt ?_)); intro a w h
 refine Qg (Ψ := [Row _ (cellsOf Zp [])]) h (Zc h rfl (.tmp rfl)) ⟨_, _, rfl, rfl⟩ ss
theorem C_MulE (Z Y : List Tz) (ad adb : Option Addr) (c cb : Nat) (hn : Z.length ≤ 100000) (hz : Zx Z ≠ 0) (hny : Y.length ≤ 100000) (hzy : Zx Y ≠ 0) : Ctr Tryz.prog 48 [.slice ad Z.length c, .slice adb Y.length cb] [Row ad (cellsOf Qy Z), Row adb (cellsOf Qy Y)] Qei := by
 refine fn_intro func48 rfl ntmps48 nb ?_
 intro S w0 a hS h
 replace h := h.derive (R := Row none (cellsOf Zp [])) (fun X _ hne => absurd rfl hne)
 refine gC h (zS (za rfl (za rfl (zn (zS (zm rfl (zw [_] rfl call82 (Yo Z _ _ hn hz) (zm rfl (zw [_] rfl call82 (Yo Y _ _ hny hzy) (za rfl (za rfl (zn (zs (zS (zm rfl (zp (.builtin [_] rfl (Zk _ _ _)) (zp (.gtr rfl rfl) ?_))))))))))))))))); clear h; intro a w h
 refine Zg h (fun hc19 h => (absurd hc19 dd)) (fun hc19 h => ?_)
 refine gL h (zm rfl (zo 20 rfl rfl rfl (zo 20 rfl rfl rfl (zo 20 rfl rfl rfl (zp (.pickF rfl rfl) (zm rfl (zo 25 rfl rfl rfl (zo 25 rfl rfl rfl (zo 25 rfl rfl rfl (zo 25 rfl rfl rfl (zo 25 rfl rfl rfl (zo 25 rfl rfl rfl (zp (.pickF rfl rfl) (zn ?_)))))))))))))); clear h; intro a w h
 refine cW ?_
 refine Zj h rfl ?_
 refine gC h (zk (zS (za rfl (zn (zs (zS (zm rfl (zp (.builtin [_] rfl (Zk _ _ _)) (zm rfl (zn (zb ?_))))))))))); clear h; intro a w h
 refine Zf (fun (k : Nat) a w => St 68 S w0 [(4, .slice none 0 0), (5, .int .i64 0), (7, .slice none 0 0), (8, .slice none 0 0), (33, .slice none 0 0), (34, nI 0), (35, nI 0)] [] [Row none (cellsOf Zp []), Row ad (cellsOf Qy Z), Row adb (cellsOf Qy Y)] a w) (fun k => 0) (0) (by exact h.sub sA) ?_; clear h
 rintro k a w h
 refine gC h (zS (zp (.lss rfl rfl) (zn (zs ?_)))); clear h; intro a w h
 refine Zb h rfl (fun hc36 => (absurd hc36 dd)) (fun hc36 => ?_)
 refine gC h (ze (zS (zm rfl (zf [_] rfl call81 (Zjx) ?_)))); rintro v67 Ψ67 ⟨ad67, c67, rfl, rfl⟩
 refine za rfl (za rfl (zn (zt ?_))); intro a w h
 refine Qg (Ψ := [Row _ (cellsOf Zp [])]) h (Qv h rfl (.tmp rfl) (.tmp rfl)) ⟨_, _, rfl, rfl⟩ ss
theorem Qib (p : List Tm) (ad : Option Addr) (c d K : Nat) (hq : Pq d K p) (hd : d ≤ 12) (hK : K ≤ 2000000) (Y : List Tz) (adb : Option Addr) (cb : Nat) (hny : Y.length ≤ 100000) (hzy : Zx Y ≠ 0) : Ctr Tryz.prog 48 [.slice ad p.length c, .slice adb Y.length cb] [Row ad (cellsOf Zp p), Row adb (cellsOf Qy Y)] Qei := by
 have hna := hq.n91 hd
 refine fn_intro func48 rfl ntmps48 nb ?_
 intro S w0 a hS h
 replace h := h.derive (R := Row none (cellsOf Zp [])) (fun X _ hne => absurd rfl hne)
 refine gC h (zS (za rfl (za rfl (zn (zS (zm rfl (zf [_] rfl call82 (Xk p _ _ d K hq hd oo) ?_))))))); rintro v14 Ψ14 ⟨ad14, c14, rfl, rfl⟩
 refine zm rfl (zw [_] rfl call82 (Yo Y _ _ hny hzy) (za rfl (za rfl (zn (zs (zS (zm rfl (zp (.builtin [_] rfl (Zk _ _ _)) (zp (.gtr rfl rfl) ?_))))))))); intro a w h
 refine Zg h (fun hc19 h => ?_) (fun hc19 h => ?_)
 focus
  refine gL h (zm rfl (zq 20 rfl rfl (.move rfl) (zq 20 rfl rfl (.builtin [_] rfl (Zk _ _ _)) (zq 20 rfl rfl (.gtr rfl rfl) ?_)))); clear h; intro a w h
  refine Zg h (fun hc23 h => (absurd hc23 dd)) (fun hc23 h => ?_)
  refine gL h (zp (.pickT rfl rfl) (zm rfl (zo 25 rfl rfl rfl (zo 25 rfl rfl rfl (zo 25 rfl rfl rfl (zo 25 rfl rfl rfl (zo 25 rfl rfl rfl (zo 25 rfl rfl rfl (zp (.pickF rfl rfl) (zn ?_)))))))))); clear h; intro a w h
 rotate_left
 focus
  refine gL h (zm rfl (zo 20 rfl rfl rfl (zo 20 rfl rfl rfl (zo 20 rfl rfl rfl (zp (.pickF rfl rfl) (zm rfl (zo 25 rfl rfl rfl (zo 25 rfl rfl rfl (zo 25 rfl rfl rfl (zo 25 rfl rfl rfl (zo 25 rfl rfl rfl (zo 25 rfl rfl rfl (zp (.pickF rfl rfl) (zn ?_)))))))))))))); clear h; intro a w h
 all_goals
  refine cW ?_
  refine Zj h rfl ?_
  refine gC h (zk (zS (za rfl (zn (zs (zS (zm rfl (zp (.builtin [_] rfl (Zk _ _ _)) (zm rfl (zn (zb ?_))))))))))); clear h; intro a w h
  refine Zf (fun (i : Nat) a w => i ≤ (norm p).length ∧ St 68 S w0 [(4, .slice none 0 0), (5, .int .i64 0), (7, .slice none 0 0), (8, .slice none 0 0), (33, .slice ad14 ((norm p).length) c14), (34, nI ((norm p).length)), (35, nI i)] [] [Row ad14 (cellsOf Zp (norm p)), Row none (cellsOf Zp []), Row ad (cellsOf Zp p), Row adb (cellsOf Qy Y)] a w) (fun i => (norm p).length - i) 0 (⟨Nat.zero_le _, by exact (h).sub sA⟩) ?_; clear h
  rintro i a w ⟨hi_i, h⟩
  refine gC h (zS (zp (.lss rfl rfl) (zn (zs ?_)))); clear h; intro a w h
  refine Zb h rfl (fun hc36 => ?_) (fun hc36 => ?_)
  ·
   skip
   have hlt_i : i < (norm p).length := dT hc36
   obtain ⟨B_ad14, O_ad14, rfl⟩ := h.row_addr (ad := ad14) (M := cellsOf Zp (norm p)) mm (nE 7)
   refine gC h (zk (zs (zb (zS (zp (.indexAddr rfl rfl (Zao _ _ _ _ _ oo)) (zD rfl mm (cells_lt (k := 7) dd (fun _ => rfl) (norm p) i oo) isAgg117 sizeOf117 (Zr (k := 7) (fun _ => rfl) ((fun _ => rfl)) (norm p) T0 i oo) (.inl rfl) ?_))))))
   refine zz Gz fun b10 => zt' rfl rfl Xp uu sizeOf117 rfl nb rfl ?_
   refine zn (zS (zm rfl (zp (.builtin [_] rfl (Zk _ _ _)) (zm rfl (zn (zb ?_)))))); intro a w h
   refine Zf (fun (k : Nat) a w => St 68 S w0 [(4, .slice none 0 0), (5, .int .i64 0), (7, .slice none 0 0), (8, .slice none 0 0), (10, pB b10), (33, .slice (some ⟨B_ad14, O_ad14, none⟩) ((norm p).length) c14), (34, nI ((norm p).length)), (35, nI i), (39, .slice none 0 0), (40, nI 0), (41, nI 0)] [(b10, bV (Zp ((norm p).getD i T0)) 117)] [Row (some ⟨B_ad14, O_ad14, none⟩) (cellsOf Zp (norm p)), Row none (cellsOf Zp []), Row ad (cellsOf Zp p), Row adb (cellsOf Qy Y)] a w) (fun k => 0) (0) (by exact h.sub sA) ?_; clear h
   rintro k a w h
   refine gC h (zS (zp (.lss rfl rfl) (zn (zs ?_)))); clear h; intro a w h
   refine Zb h rfl (fun hc42 => (absurd hc42 dd)) (fun hc42 => ?_)
   refine gC h (ze (zr (zp (.pN (i + 1) (.add rfl rfl)) (zm rfl (zn ?_))))); clear h; intro a w h
   exact ⟨i + 1, ⟨oo, ((h.drop sl).factsSub (by simp)).sub sA⟩, oo⟩
  ·
   skip
   have heq_i : (norm p).length = i := dF hc36
   subst heq_i
   refine gC h (ze (zS (zm rfl (zf [_] rfl call81 (Zjx) ?_)))); rintro v67 Ψ67 ⟨ad67, c67, rfl, rfl⟩
   refine za rfl (za rfl (zn (zt ?_))); intro a w h
   refine Qg (Ψ := [Row _ (cellsOf Zp [])]) h (Qv h rfl (.tmp rfl) (.tmp rfl)) ⟨_, _, rfl, rfl⟩ ss
theorem Zrp (p : List Tm) : Jg p [] = [] := by
 unfold Jg; simp
theorem Qf2 (k : Nat) (hk : k ≤ 12) : Pq 0 16 (norm (Yb [] k)) := (Pq.pow (Pq.nil 0) k oo).mono oo oo
theorem Qia (p : List Tm) (ad : Option Addr) (c d K : Nat) (hq : Pq d K p) (hd : d ≤ 12) (hK : K ≤ 2000000) (Y : List Tz) (adb : Option Addr) (cb : Nat) (hny : Y.length ≤ 100000) (hzy : Zx Y ≠ 0) : Ctr Tryz.prog 48 [.slice ad p.length c, .slice adb Y.length cb] [Row ad (cellsOf Zp p), Row adb (cellsOf Qy Y)] (fun v Ψ => ∃ ad' c', v = .tuple #[.slice ad' (norm (Jg p [])).length c', .int .i64 0] ∧ Ψ = [Row ad' (cellsOf Zp (norm (Jg p [])))]) := by
 have e : norm (Jg p []) = [] := by rw [Zrp, Qw]
 rw [e]; exact Qib p ad c d K hq hd hK Y adb cb hny hzy
theorem Qh9 (Z : List Tz) (ad : Option Addr) (c : Nat) (hn : Z.length ≤ 100000) (hz : Zx Z ≠ 0) (n : Nat) (hnn : n ≤ 12) : Ctr Tryz.prog 75 [.slice ad Z.length c, .int .i64 ((n : Nat) : Int)] [Row ad (cellsOf Qy Z)] (fun v Ψ => ∃ ad' c', v = .tuple #[.slice ad' (norm (Yb [] n)).length c', .int .i64 0] ∧ Ψ = [Row ad' (cellsOf Zp (norm (Yb [] n)))]) := by
 refine fn_intro func75 rfl ntmps75 nb ?_
 intro S w0 a hS h
 replace h := h.derive (R := Row none (cellsOf Zp [])) (fun X _ hne => absurd rfl hne)
 refine gC h (zS (za rfl (za rfl (zn (zs (zb (zS (zm rfl (zp (.lss rfl rfl) ?_))))))))); clear h; intro a w h
 refine Zg h (fun hc9 h => (by exfalso; have := of_decide_eq_true hc9; omega)) (fun hc9 h => ?_)
 refine gL h (zm rfl (zq 10 rfl rfl (.move rfl) (zq 10 rfl rfl (.gtr rfl rfl) ?_))); clear h; intro a w h
 refine Zg h (fun hc12 h => (by exfalso; have := of_decide_eq_true hc12; omega)) (fun hc12 h => ?_)
 refine gL h (zp (.pickF rfl rfl) (za rfl (zn ?_))); clear h; intro a w h
 refine cW ?_
 refine Zj h rfl ?_
 refine gC h (zS (zm rfl (zm rfl (zw [_] rfl call23 (Zoo Z _ _ hn hz) (zp (.mul rfl rfl) (zp (.gtr rfl rfl) (za rfl (zn ?_)))))))); clear h; intro a w h
 refine cW ?_
 refine Zb h rfl (fun hc14 => (by exfalso; have := of_decide_eq_true hc14; omega)) (fun hc14 => ?_)
 refine gC h (zk (zS (zv [_] rfl call45 (Vw _ oo oo) ?_)))
 have hl20 := Zw (1) oo oo
 refine zf [_] rfl call44 (Ze1 ((1 : Int) : Rat) 2 (Zw 1 dd dd) dd) ?_; rintro v21 Ψ21 ⟨ad21, c21, rfl, rfl⟩
 refine za rfl (zn (zs (zS (zm rfl (zm rfl (zn (zb ?_))))))); intro a w h
 refine Zf (fun (k : Nat) a w => k ≤ n ∧ ∃ (ad1 : Option Addr) (c1 : Nat), St 33 S w0 [(0, .slice ad Z.length c), (4, .slice none 0 0), (5, .int .i64 0), (6, .slice ad1 ((norm (Yb [] k)).length) c1), (22, nI n), (23, nI k)] [] [Row ad1 (cellsOf Zp (norm (Yb [] k))), Row none (cellsOf Zp []), Row ad (cellsOf Qy Z)] a w) (fun k => n - k) 0 (⟨Nat.zero_le _, _, _, by rw [show norm (Yb [] 0) = norm [⟨0, 0, ((1 : Int) : Rat)⟩] from rfl]; exact (h.factsSub (by simp)).sub (Zen ⟨rfl, rfl, rfl, rfl, rfl, rfl, trivial⟩)⟩) ?_; clear h
 rintro k a w ⟨hi_k, ad1, c1, h⟩
 refine gC h (zS (zp (.lss rfl rfl) (zn (zs ?_)))); clear h; intro a w h
 refine Zb h rfl (fun hc24 => ?_) (fun hc24 => ?_)
 ·
  skip
  have hlt_k : k < n := dT hc24
  refine gC h (zk (zs (zb (zr (zm rfl (zm rfl (zf [_, _] rfl call48 (Qia (norm (Yb [] k)) _ _ 0 16 (Qf2 k oo) dd dd Z _ _ hn hz) ?_))))))); rintro v28 Ψ28 ⟨ad28, c28, rfl, rfl⟩
  refine zm rfl (zp (.eX rfl) (zp (.eX rfl) (za rfl (zn (zr (zp (.pN (k + 1) (.add rfl rfl)) (zm rfl (zn ?_)))))))); intro a w h
  have hstep : norm (Jg (norm (Yb [] k)) []) = norm (Yb [] (k + 1)) := Ji ((Eqv.nrm _).mul Eqv.rfl')
  rw [hstep] at h
  exact ⟨k + 1, ⟨oo, ad28, c28, by exact (h.factsSub (by simp)).sub sA⟩, oo⟩
 ·
  skip
  have heq_k : n = k := dF hc24
  subst heq_k
  refine gC h (ze (zS (zm rfl (za rfl (za rfl (zn (zt ?_))))))); clear h; intro a w h
  refine Qg (Ψ := [Row _ (cellsOf Zp (norm (Yb [] n)))]) h (Qv h rfl (.tmp rfl) (.tmp rfl)) ⟨_, _, rfl, rfl⟩ ss
theorem C_AtE (Z : List Tz) (ad : Option Addr) (c : Nat) (hn : Z.length ≤ 100000) (hz : Zx Z ≠ 0) (x y : Rat) (Kx : Nat) (hx : Qc x ≤ Kx) (hy : Qc y ≤ Kx) (hKx : Kx ≤ 1000000) : Vj Tryz.prog 78 [.slice ad Z.length c, Jo x, Jo y] [Row ad (cellsOf Qy Z)] (Jo 0) := by
 refine fn_intro func78 rfl ntmps78 nb ?_
 intro S w0 a hS h
 replace h := h.derive (R := Row none (cellsOf Zp [])) (fun X _ hne => absurd rfl hne)
 refine gC h (zS (zx rfl fun b4 => zx rfl fun b5 => zz Vd fun b6 => zn (zs (yD Za [0, 2, 1, 3, 4, 5, 6, 7] (Xs ⟨.inl rfl, .inl rfl, .inl rfl, .inl rfl, .inr ⟨7, 180, _, _, _, rfl, rfl, by decide, _, Zky⟩, .inr ⟨8, 180, _, _, _, rfl, rfl, by decide, _, Zky⟩, .inl rfl, .inl rfl, trivial⟩) (yd rfl rfl mr isAgg44 sizeOf44 Zh ?_))))); clear h
 refine yd rfl rfl mr isAgg44 sizeOf44 Zh ?_
 refine yv [_] rfl rfl call139 (Zia x Kx hx oo) (yv [_] rfl rfl call139 (Zia y Kx hy oo) (yz rfl Zky fun b7 => yz rfl Zky fun b8 => yt rfl rfl rfl (Zeo (List.replicate 13 0) (pwN x 12) (Yy x 12) rfl) uu sizeOf180 (szA (pwN x 12) (Yy x 12)) (by exact leA (List.replicate 13 0) rfl) (Zuy (pwN x 12)) ?_))
 refine yt rfl rfl rfl (Zeo (List.replicate 13 0) (pwN y 12) (Yy y 12) rfl) uu sizeOf180 (szA (pwN y 12) (Yy y 12)) (by exact leA (List.replicate 13 0) rfl) (Zuy (pwN y 12)) ?_
 refine yn (zs (zS (zm rfl (zw [_] rfl call82 (Yo Z _ _ hn hz) (zp (.builtin [_] rfl (Zk _ _ _)) (zm rfl (zn (zb ?_)))))))); intro a w h
 refine Zf (fun (k : Nat) a w => St 38 S w0 [(6, pB b6), (7, pB b7), (8, pB b8), (16, .slice none 0 0), (17, nI 0), (18, nI 0)] [(b8, .cells (cellsOf Jo (pwN y 12)).toArray 180 (0, 0)), (b7, .cells (cellsOf Jo (pwN x 12)).toArray 180 (0, 0)), (b6, bV (Jo (0)) 44), (b5, bV (Jo (y)) 44), (b4, bV (Jo (x)) 44)] [Row none (cellsOf Zp []), Row ad (cellsOf Qy Z)] a w) (fun k => 0) (0) (by exact h.sub sA) ?_; clear h
 rintro k a w h
 refine gC h (zS (zp (.lss rfl rfl) (zn (zs ?_)))); clear h; intro a w h
 refine Zb h rfl (fun hc19 => (absurd hc19 dd)) (fun hc19 => ?_)
 refine gC h (ze (zS (zd rfl mr isAgg44 sizeOf44 Zh ?_)))
 refine zt' rfl rfl Qi uu sizeOf44 rfl nb rfl ?_; intro a w h
 refine wpList_nil (wp_ret ?_)
 refine Jm h (Zc h rfl (.cell rfl mr isAgg44 sizeOf44 Zh)) ?_
 rfl
end
section
def vZ (Z : List Tz) : List Tm := if Zx Z = 0 then Z.map tmZ else []
theorem Zgk {Z : List Tz} (h : Zx Z = 0) : vZ Z = Z.map tmZ := if_pos h
theorem Zcj {Z : List Tz} (h : Zx Z ≠ 0) : vZ Z = [] := if_neg h
theorem Qf9 (Z : List Tz) : norm (vZ Z) = npZ Z := by
 unfold vZ npZ; split
 · rfl
 · exact Qw
theorem Qe8 {Z : List Tz} (hn : Z.length ≤ 8) (hK : ∀ t ∈ Z, Qc t.c ≤ 4) : Pq 12 41 (vZ Z) := by
 unfold vZ; split
 · rename_i h; exact Zmb h hK hn dd
 · exact (Pq.nil 12).mono dd dd
def Zmz (er : Int) (p : List Tm) : List Tm := if er = 0 then norm p else []
theorem Zrb (p : List Tm) : Zmz 0 p = norm p := rfl
theorem Zra (er : Int) (p : List Tm) : Nrm (Zmz er p) := by
 unfold Zmz; split
 · exact Qr _
 · exact ⟨(fun _ h => nomatch h), List.Pairwise.nil⟩
def MulC (p q : List Tm) (er : Int) : Prop := (er = 0 ∧ ∃ da db : Nat, da + db ≤ 12 ∧ DL da p ∧ DL db q) ∨ (er = 9 ∧ ∃ M N : Nat, Gl (norm p) = (M : Int) ∧ Gl (norm q) = (N : Int) ∧ 12 < M + N)
def PowC (p : List Tm) (n : Nat) (er : Int) : Prop := (er = 0 ∧ ∃ d : Nat, d ≤ 12 ∧ n * d ≤ 12 ∧ DL d p) ∨ (er = 9 ∧ ∃ D : Nat, D ≤ 12 ∧ Gl (norm p) = (D : Int) ∧ 12 < n * D)
theorem Qbi {p q : List Tm} {er : Int} (h : MulC p q er) (hp : Pq 12 41 p) (hq : Pq 12 41 q) : Pq 12 82 (Zmz er (Jg p q)) := by
 rcases h with ⟨rfl, da, db, h1, h2, h3⟩ | ⟨rfl, _⟩
 ·
  rw [Zrb]
  exact ((Pq.mul (show Pq da 41 p from ⟨h2, hp.len, hp.hgt⟩) (show Pq db 41 q from ⟨h3, hq.len, hq.hgt⟩) h1)).mono h1 dd
 · exact (Pq.nil 12).mono dd dd
theorem Qbh {p : List Tm} {n : Nat} {er : Int} (h : PowC p n er) (hn : n ≤ 12) (hp : Pq 12 41 p) : Pq 12 500 (Zmz er (Yb p n)) := by
 rcases h with ⟨rfl, d, h1, h2, h3⟩ | ⟨rfl, _⟩
 ·
  rw [Zrb]
  exact (Pq.pow (show Pq d 41 p from ⟨h3, hp.len, hp.hgt⟩) n h2).mono h2 (by have := Nat.mul_le_mul_right 41 hn; omega)
 · exact (Pq.nil 12).mono dd dd
theorem MulC.nil {er : Int} (h : MulC [] [] er) : er = 0 := by
 rcases h with ⟨h, _⟩ | ⟨_, M, N, h1, _⟩
 · exact h
 · rw [Qw, Zl3] at h1; omega
theorem PowC.nil {n : Nat} {er : Int} (h : PowC [] n er) : er = 0 := by
 rcases h with ⟨h, _⟩ | ⟨_, D, _, h1, _⟩
 · exact h
 · rw [Qw, Zl3] at h1; omega
theorem Zyw {P : Program} {f : FuncId} {Z Y : List Tz} {ad adb : Option Addr} {c cb : Nat} {R : List Value} {post : Value → List Zy → Prop} (hz : Zx Z = 0) (hy : Zx Y = 0)
  (h : Ctr P f (.slice ad (Z.map tmZ).length c :: .slice adb (Y.map tmZ).length cb :: R) [Row ad (cellsOf Zp (Z.map tmZ)), Row adb (cellsOf Zp (Y.map tmZ))] post) : Ctr P f (.slice ad Z.length c :: .slice adb Y.length cb :: R) [Row ad (cellsOf Qy Z), Row adb (cellsOf Qy Y)] post := by
 rw [Zqj hz, Zqj hy]; rw [List.length_map, List.length_map] at h; exact h
theorem Zl5 {P : Program} {f : FuncId} {args : List Value} {Φ : List Zy} {er : Int} (h : Vj P f args Φ (.tuple #[.slice none 0 0, .int .i64 er])) : Ctr P f args Φ (fun v Ψ => ∃ ad c, v = .tuple #[.slice ad ([] : List Tm).length c, .int .i64 er] ∧ Ψ = [Row ad (cellsOf Zp [])]) := fun X w hX hΦ =>
 (h X w hX hΦ).mono fun e w' ⟨u, Ψ, h1, ⟨h2, _⟩, h3, _⟩ => ⟨u, _, h1, ⟨none, 0, h2, rfl⟩, h3, fun R hR => by rw [List.mem_singleton.1 hR]; exact fun hne => absurd rfl hne⟩
theorem Qak (p : List Tm) (ad : Option Addr) (c d K : Nat) (hq : Pq d K p) (hd : d ≤ 12) (hK : K ≤ 2000000) (D : Nat) (hD : Gl (norm p) = (D : Int)) : Vj Tryz.prog 23 [.slice ad p.length c] [Row ad (cellsOf Zp p)] (.int .i64 ((D : Nat) : Int)) := by
 rw [← hD]; exact Ya p ad c d K hq hd oo
theorem Qdd (p : List Tm) (ad : Option Addr) (c d K : Nat) (hq : Pq d K p) (hd : d ≤ 12) (hK : K ≤ 2000000) (n D : Nat) (hnn : n ≤ 12) (hD12 : D ≤ 12) (hD : Gl (norm p) = (D : Int)) (hlt : 12 < n * D) : Vj Tryz.prog 75 [.slice ad p.length c, .int .i64 ((n : Nat) : Int)] [Row ad (cellsOf Zp p)] (.tuple #[.slice none 0 0, .int .i64 9]) := by
 have hnd := Nat.mul_le_mul hnn hD12
 have hnd2 : (n : Int) * (D : Int) = ((n * D : Nat) : Int) := (Int.natCast_mul _ _).symm
 refine fn_intro func75 rfl ntmps75 nb ?_
 intro S w0 a hS h
 refine gC h (zS (za rfl (za rfl (zn (zs (zb (zS (zm rfl (zp (.lss rfl rfl) ?_))))))))); clear h; intro a w h
 refine Zg h (fun hc9 h => (by exfalso; have := of_decide_eq_true hc9; omega)) (fun hc9 h => ?_)
 refine gL h (zm rfl (zq 10 rfl rfl (.move rfl) (zq 10 rfl rfl (.gtr rfl rfl) ?_))); clear h; intro a w h
 refine Zg h (fun hc12 h => (by exfalso; have := of_decide_eq_true hc12; omega)) (fun hc12 h => ?_)
 refine gL h (zp (.pickF rfl rfl) (za rfl (zn ?_))); clear h; intro a w h
 refine cW ?_
 refine Zj h rfl ?_
 refine gC h (zS (zm rfl (zm rfl (zw [_] rfl call23 (Qak p _ _ d K hq hd hK D hD) (zp (.pN (n * D) (.mul rfl rfl)) (zp (.gtr rfl rfl) (za rfl (zn ?_)))))))); clear h; intro a w h
 refine cW ?_
 refine Zb h rfl (fun hc14 => ?_) (fun hc14 => (by exfalso; have := of_decide_eq_false hc14; omega))
 refine gC h (zS (za rfl (za rfl (zn (zt ?_))))); clear h; intro a w h
 refine Jm h (Qv h rfl (.tmp rfl) (.tmp rfl)) ?_
 rfl
theorem C_AddZ (Z Y : List Tz) (ad adb : Option Addr) (c cb : Nat) (hn : Z.length ≤ 8) (hK : ∀ t ∈ Z, Qc t.c ≤ 4) (hny : Y.length ≤ 8) (hKY : ∀ t ∈ Y, Qc t.c ≤ 4) (hzy : Zx Z = 0 ↔ Zx Y = 0) : Ctr Tryz.prog 73 [.slice ad Z.length c, .slice adb Y.length cb] [Row ad (cellsOf Qy Z), Row adb (cellsOf Qy Y)] (fun v Ψ => ∃ ad' c', v = .slice ad' (norm (vZ Z ++ vZ Y)).length c' ∧ Ψ = [Row ad' (cellsOf Zp (norm (vZ Z ++ vZ Y)))]) := by
 by_cases hz : Zx Z = 0
 ·
  rw [Zgk hz, Zgk (hzy.1 hz)]
  exact Zyw hz (hzy.1 hz) (Yv _ _ _ _ _ _ 12 12 _ _ (Zmb hz hK hn dd) (Zmb (hzy.1 hz) hKY hny dd) dd dd dd dd)
 ·
  rw [Zcj hz, Zcj (fun e => hz (hzy.2 e))]
  rw [List.append_nil, Qw]; exact C_AddE Z Y ad adb c cb oo hz oo (fun e => hz (hzy.2 e))
theorem C_SubZ (Z Y : List Tz) (ad adb : Option Addr) (c cb : Nat) (hn : Z.length ≤ 8) (hK : ∀ t ∈ Z, Qc t.c ≤ 4) (hny : Y.length ≤ 8) (hKY : ∀ t ∈ Y, Qc t.c ≤ 4) (hzy : Zx Z = 0 ↔ Zx Y = 0) : Ctr Tryz.prog 74 [.slice ad Z.length c, .slice adb Y.length cb] [Row ad (cellsOf Qy Z), Row adb (cellsOf Qy Y)] (fun v Ψ => ∃ ad' c', v = .slice ad' (norm (vZ Z ++ Zs ((-1 : Int) : Rat) (vZ Y))).length c' ∧ Ψ = [Row ad' (cellsOf Zp (norm (vZ Z ++ Zs ((-1 : Int) : Rat) (vZ Y))))]) := by
 by_cases hz : Zx Z = 0
 ·
  rw [Zgk hz, Zgk (hzy.1 hz)]
  exact Zyw hz (hzy.1 hz) (Zjw _ _ _ _ _ _ 12 12 _ _ (Zmb hz hK hn dd) (Zmb (hzy.1 hz) hKY hny dd) dd dd dd dd)
 ·
  rw [Zcj hz, Zcj (fun e => hz (hzy.2 e))]
  rw [show Zs ((-1 : Int) : Rat) [] = [] from rfl, List.append_nil, Qw]; exact C_SubE Z Y ad adb c cb oo hz oo (fun e => hz (hzy.2 e))
theorem C_NegZ (Z : List Tz) (ad : Option Addr) (c : Nat) (hn : Z.length ≤ 8) (hK : ∀ t ∈ Z, Qc t.c ≤ 4) : Ctr Tryz.prog 104 [.slice ad Z.length c] [Row ad (cellsOf Qy Z)] (fun v Ψ => ∃ ad' c', v = .slice ad' (norm (Zs ((-1 : Int) : Rat) (vZ Z))).length c' ∧ Ψ = [Row ad' (cellsOf Zp (norm (Zs ((-1 : Int) : Rat) (vZ Z))))]) := by
 by_cases hz : Zx Z = 0
 ·
  rw [Zgk hz]
  exact Zhp hz (Qag _ _ _ 12 _ (Zmb hz hK hn dd) dd dd dd)
 ·
  rw [Zcj hz]
  rw [show Zs ((-1 : Int) : Rat) [] = [] from rfl, Qw]; exact Qey Z ad c oo hz
theorem Qc9 (Z : List Tz) (ad : Option Addr) (c : Nat) (hn : Z.length ≤ 8) (hK : ∀ t ∈ Z, Qc t.c ≤ 4) (x : Rat) (hx : Qc x ≤ 4) : Ctr Tryz.prog 100 [.slice ad Z.length c, Jo x] [Row ad (cellsOf Qy Z)] (fun v Ψ => ∃ ad' c', v = .slice ad' (norm (Zs x (vZ Z))).length c' ∧ Ψ = [Row ad' (cellsOf Zp (norm (Zs x (vZ Z))))]) := by
 by_cases hz : Zx Z = 0
 ·
  rw [Zgk hz]
  exact Zhp hz (Ze0 _ _ _ 12 _ (Zmb hz hK hn dd) dd dd x 4 hx dd)
 ·
  rw [Zcj hz]
  rw [show Zs x [] = [] from rfl, Qw]; exact Ztl Z ad c oo hz x
theorem C_DxZ (Z : List Tz) (ad : Option Addr) (c : Nat) (hn : Z.length ≤ 8) (hK : ∀ t ∈ Z, Qc t.c ≤ 4) : Ctr Tryz.prog 76 [.slice ad Z.length c] [Row ad (cellsOf Qy Z)] (fun v Ψ => ∃ ad' c', v = .slice ad' (norm (dxL (vZ Z))).length c' ∧ Ψ = [Row ad' (cellsOf Zp (norm (dxL (vZ Z))))]) := by
 by_cases hz : Zx Z = 0
 ·
  rw [Zgk hz]
  exact Zhp hz (Zdl _ _ _ 12 _ (Zmb hz hK hn dd) dd dd)
 ·
  rw [Zcj hz]
  rw [show dxL [] = [] from rfl, Qw]; exact C_DxE Z ad c oo hz
theorem C_DyZ (Z : List Tz) (ad : Option Addr) (c : Nat) (hn : Z.length ≤ 8) (hK : ∀ t ∈ Z, Qc t.c ≤ 4) : Ctr Tryz.prog 97 [.slice ad Z.length c] [Row ad (cellsOf Qy Z)] (fun v Ψ => ∃ ad' c', v = .slice ad' (norm (dyL (vZ Z))).length c' ∧ Ψ = [Row ad' (cellsOf Zp (norm (dyL (vZ Z))))]) := by
 by_cases hz : Zx Z = 0
 ·
  rw [Zgk hz]
  exact Zhp hz (Zds _ _ _ 12 _ (Zmb hz hK hn dd) dd dd)
 ·
  rw [Zcj hz]
  rw [show dyL [] = [] from rfl, Qw]; exact C_DyE Z ad c oo hz
theorem Zva (Z : List Tz) (ad : Option Addr) (c : Nat) (hn : Z.length ≤ 8) (hK : ∀ t ∈ Z, Qc t.c ≤ 4) : Ctr Tryz.prog 77 [.slice ad Z.length c] [Row ad (cellsOf Qy Z)] (fun v Ψ => ∃ ad' c', v = .slice ad' (norm (norm (dxL (norm (dxL (vZ Z)))) ++ norm (dyL (norm (dyL (vZ Z)))))).length c' ∧ Ψ = [Row ad' (cellsOf Zp (norm (norm (dxL (norm (dxL (vZ Z)))) ++ norm (dyL (norm (dyL (vZ Z)))))))]) := by
 by_cases hz : Zx Z = 0
 ·
  rw [Zgk hz]
  exact Zhp hz (Zj1 _ _ _ 12 _ (Zmb hz hK hn dd) dd dd)
 ·
  rw [Zcj hz]
  rw [show norm (norm (dxL (norm (dxL ([])))) ++ norm (dyL (norm (dyL ([]))))) = [] from by rw [show dxL [] = [] from rfl, show dyL [] = [] from rfl, Qw, show dxL [] = [] from rfl, show dyL [] = [] from rfl, Qw, List.append_nil, Qw]]; exact Zvb Z ad c oo hz
theorem C_AtZ (Z : List Tz) (ad : Option Addr) (c : Nat) (hn : Z.length ≤ 8) (hK : ∀ t ∈ Z, Qc t.c ≤ 4) (x y : Rat) (hx : Qc x ≤ 4) (hy : Qc y ≤ 4) : Vj Tryz.prog 78 [.slice ad Z.length c, Jo x, Jo y] [Row ad (cellsOf Qy Z)] (Jo (evP (vZ Z) x y)) := by
 by_cases hz : Zx Z = 0
 ·
  rw [Zgk hz]
  exact Zhp hz (Qdh _ _ _ 12 _ 4 (Zmb hz hK hn dd) dd x y hx hy dd dd)
 ·
  rw [Zcj hz]
  exact C_AtE Z ad c oo hz x y 4 hx hy dd
theorem C_MulZ (Z Y : List Tz) (ad adb : Option Addr) (c cb : Nat) (hn : Z.length ≤ 8) (hK : ∀ t ∈ Z, Qc t.c ≤ 4) (hny : Y.length ≤ 8) (hKY : ∀ t ∈ Y, Qc t.c ≤ 4) (hzy : Zx Z = 0 ↔ Zx Y = 0) (er : Int) (hM : MulC (vZ Z) (vZ Y) er) : Ctr Tryz.prog 48 [.slice ad Z.length c, .slice adb Y.length cb] [Row ad (cellsOf Qy Z), Row adb (cellsOf Qy Y)] (fun v Ψ => ∃ ad' c', v = .tuple #[.slice ad' (Zmz er (Jg (vZ Z) (vZ Y))).length c', .int .i64 er] ∧ Ψ = [Row ad' (cellsOf Zp (Zmz er (Jg (vZ Z) (vZ Y))))]) := by
 by_cases hz : Zx Z = 0
 ·
  rw [Zgk hz, Zgk (hzy.1 hz)] at hM ⊢
  refine Zyw hz (hzy.1 hz) ?_
  have hp := Zmb hz hK hn dd
  have hq := Zmb (hzy.1 hz) hKY hny dd
  rcases hM with ⟨rfl, da, db, h1, h2, h3⟩ | ⟨rfl, M, N, h1, h2, h3⟩
  · exact Km _ _ ad adb c cb da db _ _ ⟨h2, hp.len, hp.hgt⟩ ⟨h3, hq.len, hq.hgt⟩ h1 dd dd
  · exact Zl5 (Zog _ _ ad adb c cb 12 12 _ _ hp hq dd dd dd dd (Zh4 h1) (Zh4 h2) (by rw [h1, h2]; omega))
 ·
  rw [Zcj hz, Zcj (fun e => hz (hzy.2 e))] at hM ⊢
  rw [hM.nil, Zrp, Zrb, Qw]; exact C_MulE Z Y ad adb c cb oo hz oo (fun e => hz (hzy.2 e))
theorem C_PowZ (Z : List Tz) (ad : Option Addr) (c : Nat) (hn : Z.length ≤ 8) (hK : ∀ t ∈ Z, Qc t.c ≤ 4) (n : Nat) (hnn : n ≤ 12) (er : Int) (hM : PowC (vZ Z) n er) : Ctr Tryz.prog 75 [.slice ad Z.length c, .int .i64 ((n : Nat) : Int)] [Row ad (cellsOf Qy Z)] (fun v Ψ => ∃ ad' c', v = .tuple #[.slice ad' (Zmz er (Yb (vZ Z) n)).length c', .int .i64 er] ∧ Ψ = [Row ad' (cellsOf Zp (Zmz er (Yb (vZ Z) n)))]) := by
 by_cases hz : Zx Z = 0
 ·
  rw [Zgk hz] at hM ⊢
  refine Zhp hz ?_
  have hp := Zmb hz hK hn dd
  rcases hM with ⟨rfl, d, h1, h2, h3⟩ | ⟨rfl, D, h1, h2, h3⟩
  · exact Qaf _ ad c d _ ⟨h3, hp.len, hp.hgt⟩ n hnn h1 h2 (by have := Nat.mul_le_mul_right 41 hnn; omega) dd
  · exact Zl5 (Qdd _ ad c 12 _ hp dd dd n D hnn h1 h2 h3)
 ·
  rw [Zcj hz] at hM ⊢
  rw [hM.nil, Zrb]; exact Qh9 Z ad c oo hz n hnn
theorem Qdc (v : Value) (n : Int) (hn : n < 0 ∨ 12 < n) : Ys Tryz.prog 75 [v, .int .i64 n] (.tuple #[.slice none 0 0, .int .i64 1]) := by
 refine fn_intro func75 rfl ntmps75 nb ?_
 intro S w0 a hS h
 refine gC h (zS (za rfl (za rfl (zn (zs (zb (zS (zm rfl (zp (.lss rfl rfl) ?_))))))))); clear h; intro a w h
 refine Zg h (fun hc9 h => ?_) (fun hc9 h => ?_)
 focus
  skip
  refine gL h (zm rfl (zo 10 rfl rfl rfl (zo 10 rfl rfl rfl (zp (.pickT rfl rfl) (za rfl (zn ?_)))))); clear h; intro a w h
 rotate_left
 focus
  have h9 : ¬ n < 0 := of_decide_eq_false hc9
  refine gL h (zm rfl (zq 10 rfl rfl (.move rfl) (zq 10 rfl rfl (.gtr rfl rfl) ?_))); clear h; intro a w h
  refine Zg h (fun hc12 h => ?_) (fun hc12 h => (by exfalso; have := of_decide_eq_false hc12; omega))
  refine gL h (zp (.pickF rfl rfl) (za rfl (zn ?_))); clear h; intro a w h
 all_goals
  refine cW ?_
  refine Zq h rfl ?_
  refine gC h (zS (za rfl (za rfl (zn (zt ?_))))); clear h; intro a w h
  refine Jm h (Qv h rfl (.tmp rfl) (.tmp rfl)) ?_
  rfl
def Qhl (p : List Tm) (n : Int) (er : Int) : Prop := (∃ k : Nat, n = (k : Int) ∧ k ≤ 12 ∧ PowC p k er) ∨ (er = 1 ∧ (n < 0 ∨ 12 < n))
theorem Zwl {p : List Tm} {n er : Int} (h : Qhl p n er) (hp : Pq 12 41 p) : Pq 12 500 (Zmz er (Yb p n.toNat)) := by
 rcases h with ⟨k, rfl, h1, h2⟩ | ⟨rfl, _⟩
 · rw [Int.toNat_natCast]; exact Qbh h2 h1 hp
 · exact (Pq.nil 12).mono dd dd
theorem Qh8 (Z : List Tz) (ad : Option Addr) (c : Nat) (hn : Z.length ≤ 8) (hK : ∀ t ∈ Z, Qc t.c ≤ 4) (n er : Int) (hM : Qhl (vZ Z) n er) : Ctr Tryz.prog 75 [.slice ad Z.length c, .int .i64 n] [Row ad (cellsOf Qy Z)] (fun v Ψ => ∃ ad' c', v = .tuple #[.slice ad' (Zmz er (Yb (vZ Z) n.toNat)).length c', .int .i64 er] ∧ Ψ = [Row ad' (cellsOf Zp (Zmz er (Yb (vZ Z) n.toNat)))]) := by
 rcases hM with ⟨k, rfl, h1, h2⟩ | ⟨rfl, h1⟩
 · rw [Int.toNat_natCast]; exact C_PowZ Z ad c hn hK k h1 er h2
 · exact Zl5 (Zsz (Qdc _ n h1) _)
end
section
theorem Qhs (b1 : Nat) (la : List FT) (D Ka : Nat) (ha : Tb D Ka (xs la)) (hda : D ≤ 12) (hk2 : Ka ≤ 1000000) (hD : Gl (norm (pol (xs la))) = (D : Int)) (n : Nat) (hn : n ≤ 12) (hlt : 12 < n * D) : Ctr Tryz.prog 106 [.slice (some ⟨b1, 0, none⟩) 169 169, .int .i64 ((n : Nat) : Int)] [Row (some ⟨b1, 0, none⟩) (cellsOf Jr la), AllF la] PostE := by
 refine fn_intro func106 rfl ntmps106 nb ?_
 intro S w0 a hS h
 refine gC h (zS (za rfl (za rfl (zn (zs (zS (zm rfl (zp (.lss rfl rfl) ?_)))))))); clear h; intro a w h
 refine Zg h (fun hc11 h => (by exfalso; have := of_decide_eq_true hc11; omega)) (fun hc11 h => ?_)
 refine gL h (zm rfl (zq 12 rfl rfl (.move rfl) (zq 12 rfl rfl (.gtr rfl rfl) ?_))); clear h; intro a w h
 refine Zg h (fun hc14 h => (by exfalso; have := of_decide_eq_true hc14; omega)) (fun hc14 h => ?_)
 refine gL h (zp (.pickF rfl rfl) (zn ?_)); clear h; intro a w h
 refine cW ?_
 refine Zj h rfl ?_
 refine gC h (zk (zS (zf [] rfl call163 (Qeo) ?_))); rintro v17 Ψ17 ⟨b17, l17, rfl, ht17, he17, rfl⟩
 refine za rfl (zn (zs (zS (za rfl (zn (zb ?_)))))); intro a w h
 refine Zf (fun (i : Nat) a w => i ≤ n ∧ ∃ b l, ((i * D ≤ 12 ∧ Tb (i * D) (i * Ka + 4) (xs l) ∧ Eqv (pol (xs l)) (Yb (pol (xs la)) i))) ∧ St 35 S w0 [(0, .slice (some ⟨b1, 0, none⟩) 169 169), (1, nI n), (6, .slice (some ⟨b, 0, none⟩) 169 169), (7, nI i)] [] [Row (some ⟨b, 0, none⟩) (cellsOf Jr l), AllF l, Row (some ⟨b1, 0, none⟩) (cellsOf Jr la), AllF la] a w) (fun i => n - i) 0 (⟨Nat.zero_le _, b17, l17, ⟨by rw [Nat.zero_mul]; decide, by rw [Nat.zero_mul, Nat.zero_mul]; exact ht17, he17⟩, by exact (h.factsSub (by simp)).sub (Zen ⟨rfl, rfl, rfl, rfl, trivial⟩)⟩) ?_; clear h
 rintro i a w ⟨hi_i, b, l, ⟨hid2, ht, he⟩, h⟩
 refine gC h (zs (zS (zm rfl (zm rfl (zp (.lss rfl rfl) (zn ?_)))))); clear h; intro a w h
 refine cW ?_
 refine Zb h rfl (fun hc20 => ?_) (fun hc20 => ?_)
 ·
  skip
  have hlt_i : i < n := dT hc20
  have hik : i * Ka + 4 ≤ 100000000 := by have := Nat.mul_le_mul (show i ≤ 12 by omega) hk2; omega
  have hG : (i * D + D ≤ 12) ∧ i * D + D ≤ 12 ∨ ¬ (i * D + D ≤ 12) ∧ Qeg (xs l) (xs la) := by
   by_cases h12 : i * D + D ≤ 12
   · exact .inl ⟨h12, h12⟩
   · exact .inr ⟨h12, Qef ht.len ha.len (by rw [Ji he]; exact Zso hD i) hD oo⟩
  refine gC h (zk (zs (zb (zS (zm rfl (zm rfl (zf [_, _] rfl call101 (Qht b l (i * D) (i * Ka + 4) ht hid2 hik b1 la D Ka ha hda oo (i * D + D ≤ 12) hG) ?_))))))); rintro v26 Ψ26 ⟨b26, l26, e26, rfl, hr26, rfl⟩
  refine zm rfl (zp (.eX rfl) (zp (.eX rfl) (za rfl (za rfl (zn (zs (zS (zm rfl (zp (.neq rfl rfl) (zn ?_)))))))))); intro a w h
  refine cW ?_
  refine Zb h rfl (fun hc30 => ?_) (fun hc30 => ?_)
  ·
   skip
   have he9 : e26 = 9 := by
    rcases hr26 with ⟨h9, _⟩ | ⟨h9, _⟩
    · exact absurd h9 (by simpa using hc30)
    · exact h9
   refine wp_seq (wp_region_lit ?_)
   refine Zi (Jb h (vs := []) rfl call105 (Gb) ss dd ?_); clear h; rintro v31 σ31 a w ⟨b31, rfl, rfl⟩ h
   replace h := h.derive (R := AllF (List.replicate 169 FT0)) (fun X hX => AllF.zeros 169 X _)
   refine gL h (zm rfl (za rfl (za rfl (zn (zt ?_))))); clear h; intro a w h
   replace h := h.shareAll hS (cellsOf Jr (List.replicate 169 FT0)) rfl
   exact Qg (Ψ := [Row (some ⟨b31, 0, none⟩) (cellsOf Jr (List.replicate 169 FT0)), AllF (List.replicate 169 FT0)]) h (Qv h rfl (.tmp rfl) (.tmp rfl)) ⟨b31, _, by show Value.tuple #[_, Value.int .i64 e26] = _; rw [he9], List.length_replicate, by rw [Vx]; exact fun φ => Jh φ 169, rfl⟩ ss
  ·
   skip
   have he0 : e26 = 0 := by simpa using hc30
   obtain ⟨hle2, ht26, he26⟩ : i * D + D ≤ 12 ∧ Tb (i * D + D) (i * Ka + 4 + Ka) (xs l26) ∧ Eqv (pol (xs l26)) (Jg (pol (xs l)) (pol (xs la))) := by
    rcases hr26 with ⟨_, a, b, c⟩ | ⟨h9, _⟩
    · exact ⟨a, b, c⟩
    · omega
   refine gC h (zk (zr (zm rfl (za rfl (zn (zr (zm rfl (zp (.pN (i + 1) (.add rfl rfl)) (za rfl (zn ?_)))))))))); clear h; intro a w h
   exact ⟨i + 1, ⟨oo, b26, l26, ⟨by rw [Nat.add_mul, Nat.one_mul]; exact hle2, by rw [Nat.add_mul, Nat.one_mul, Nat.add_mul, Nat.one_mul]; exact ht26.mono (Nat.le_refl _) oo, he26.trans (he.mul Eqv.rfl')⟩, by exact (h.factsSub (by simp)).sub sA⟩, oo⟩
 ·
  skip
  have heq_i : n = i := dF hc20
  subst heq_i
  exact absurd hid2 oo
theorem Tb.nilE {l : List FT} (hl : l.length = 169) (he : Eqv (pol (xs l)) []) : Tb 12 1 (xs l) := Tb.of_eqv (by rw [Zdm]; exact hl) he (fun _ h => nomatch h) Hb.nil
theorem Qhu (b1 : Nat) (la : List FT) (Ka : Nat) (ha : Tb 12 Ka (xs la)) (hka : Ka ≤ 1000000) (b2 : Nat) (lb : List FT) (Kb : Nat) (hb : Tb 12 Kb (xs lb)) (hkb : Kb ≤ 1000000) (p q : List Tm) (he1 : Eqv (pol (xs la)) p) (he2 : Eqv (pol (xs lb)) q) (er : Int) (hM : MulC p q er) :
  Ctr Tryz.prog 101 [.slice (some ⟨b1, 0, none⟩) 169 169, .slice (some ⟨b2, 0, none⟩) 169 169] [Row (some ⟨b1, 0, none⟩) (cellsOf Jr la), AllF la, Row (some ⟨b2, 0, none⟩) (cellsOf Jr lb), AllF lb] (fun v Ψ => ∃ b l, v = .tuple #[.slice (some ⟨b, 0, none⟩) 169 169, .int .i64 er] ∧ Tb 12 (Ka + Kb + 1) (xs l) ∧ Eqv (pol (xs l)) (Zmz er (Jg p q)) ∧ Ψ = [Row (some ⟨b, 0, none⟩) (cellsOf Jr l), AllF l]) := by
 rcases hM with ⟨rfl, da, db, h1, h2, h3⟩ | ⟨rfl, M, N, h1, h2, h3⟩
 ·
  have h := Zs9 b1 la da Ka (ha.exact (by rw [Ji he1]; exact Gx (Qm h2))) oo oo b2 lb db Kb (hb.exact (by rw [Ji he2]; exact Gx (Qm h3))) oo oo h1
  exact Za0 h (fun v Ψ ⟨b, l, a1, a2, a3, a4⟩ => ⟨b, l, a1, a2.mono oo oo, (a3.trans (he1.mul he2)).trans (Eqv.nrm _).symm, a4⟩)
 ·
  have h := Zzv b1 la 12 Ka ha dd oo b2 lb 12 Kb hb dd oo (Qef ha.len hb.len (by rw [Ji he1]; exact h1) (by rw [Ji he2]; exact h2) h3)
  exact Za0 h (fun v Ψ ⟨b, l, a1, a2, a3, a4⟩ => ⟨b, l, a1, (Tb.nilE a2 a3).mono dd oo, a3, a4⟩)
theorem Qhr (b1 : Nat) (la : List FT) (Ka : Nat) (ha : Tb 12 Ka (xs la)) (hka : Ka ≤ 1000000) (p : List Tm) (he1 : Eqv (pol (xs la)) p) (n : Nat) (hn : n ≤ 12) (er : Int) (hM : PowC p n er) :
  Ctr Tryz.prog 106 [.slice (some ⟨b1, 0, none⟩) 169 169, .int .i64 ((n : Nat) : Int)] [Row (some ⟨b1, 0, none⟩) (cellsOf Jr la), AllF la] (fun v Ψ => ∃ b l, v = .tuple #[.slice (some ⟨b, 0, none⟩) 169 169, .int .i64 er] ∧ Tb 12 (12 * Ka + 5) (xs l) ∧ Eqv (pol (xs l)) (Zmz er (Yb p n)) ∧ Ψ = [Row (some ⟨b, 0, none⟩) (cellsOf Jr l), AllF l]) := by
 rcases hM with ⟨rfl, d, h1, h2, h3⟩ | ⟨rfl, D, h1, h2, h3⟩
 ·
  have h := Zzt b1 la d Ka (ha.exact (by rw [Ji he1]; exact Gx (Qm h3))) h1 n hn h2 oo
  exact Za0 h (fun v Ψ ⟨b, l, a1, a2, a3, a4⟩ => ⟨b, l, a1, a2.mono h2 (by have := Nat.mul_le_mul_right Ka hn; omega), (a3.trans (he1.pow n)).trans (Eqv.nrm _).symm, a4⟩)
 ·
  have hD : Gl (norm (pol (xs la))) = (D : Int) := by rw [Ji he1]; exact h2
  have h := Qhs b1 la D Ka (ha.exact (by rw [hD]; exact Int.le_refl _)) h1 oo hD n hn h3
  exact Za0 h (fun v Ψ ⟨b, l, a1, a2, a3, a4⟩ => ⟨b, l, a1, (Tb.nilE a2 a3).mono dd oo, a3, a4⟩)
theorem Zzs (v : Value) (n : Int) (hn : n < 0 ∨ 12 < n) : Ctr Tryz.prog 106 [v, .int .i64 n] [] (fun u Ψ => ∃ b l, u = .tuple #[.slice (some ⟨b, 0, none⟩) 169 169, .int .i64 1] ∧ l.length = 169 ∧ Eqv (pol (xs l)) [] ∧ Ψ = [Row (some ⟨b, 0, none⟩) (cellsOf Jr l), AllF l]) := by
 refine fn_intro func106 rfl ntmps106 nb ?_
 intro S w0 a hS h
 refine gC h (zS (za rfl (za rfl (zn (zs (zS (zm rfl (zp (.lss rfl rfl) ?_)))))))); clear h; intro a w h
 refine Zg h (fun hc11 h => ?_) (fun hc11 h => ?_)
 focus
  skip
  refine gL h (zm rfl (zo 12 rfl rfl rfl (zo 12 rfl rfl rfl (zp (.pickT rfl rfl) (zn ?_))))); clear h; intro a w h
 rotate_left
 focus
  have h9 : ¬ n < 0 := of_decide_eq_false hc11
  refine gL h (zm rfl (zq 12 rfl rfl (.move rfl) (zq 12 rfl rfl (.gtr rfl rfl) ?_))); clear h; intro a w h
  refine Zg h (fun hc14 h => ?_) (fun hc14 h => (by exfalso; have := of_decide_eq_false hc14; omega))
  refine gL h (zp (.pickF rfl rfl) (zn ?_)); clear h; intro a w h
 all_goals
  refine cW ?_
  refine Zq h rfl ?_
  refine wp_seq (wp_region_lit ?_)
  refine Zi (Jb h (vs := []) rfl call105 (Gb) ss dd ?_); clear h; rintro v16 σ16 a w ⟨b16, rfl, rfl⟩ h
  replace h := h.derive (R := AllF (List.replicate 169 FT0)) (fun X hX => AllF.zeros 169 X _)
  refine gL h (za rfl (za rfl (zn (zt ?_)))); clear h; intro a w h
  replace h := h.shareAll hS (cellsOf Jr (List.replicate 169 FT0)) rfl
  exact Qg (Ψ := [Row (some ⟨b16, 0, none⟩) (cellsOf Jr (List.replicate 169 FT0)), AllF (List.replicate 169 FT0)]) h (Qv h rfl (.tmp rfl) (.tmp rfl)) ⟨b16, _, rfl, List.length_replicate, by rw [Vx]; exact fun φ => Jh φ 169, rfl⟩ ss
theorem Qcw {P : Program} {f : FuncId} {args : List Value} {Φ Φ' : List Zy} {post : Value → List Zy → Prop} (h : Ctr P f args Φ post) (hs : ∀ R ∈ Φ, R ∈ Φ') : Ctr P f args Φ' post := fun X w hX hF => h X w hX (fun R hR => hF R (hs R hR))
theorem Qc5 (b1 : Nat) (la : List FT) (Ka : Nat) (ha : Tb 12 Ka (xs la)) (hka : Ka ≤ 1000000) (p : List Tm) (he1 : Eqv (pol (xs la)) p) (n er : Int) (hM : Qhl p n er) :
  Ctr Tryz.prog 106 [.slice (some ⟨b1, 0, none⟩) 169 169, .int .i64 n] [Row (some ⟨b1, 0, none⟩) (cellsOf Jr la), AllF la] (fun v Ψ => ∃ b l, v = .tuple #[.slice (some ⟨b, 0, none⟩) 169 169, .int .i64 er] ∧ Tb 12 (12 * Ka + 5) (xs l) ∧ Eqv (pol (xs l)) (Zmz er (Yb p n.toNat)) ∧ Ψ = [Row (some ⟨b, 0, none⟩) (cellsOf Jr l), AllF l]) := by
 rcases hM with ⟨k, rfl, h1, h2⟩ | ⟨rfl, h1⟩
 · rw [Int.toNat_natCast]; exact Qhr b1 la Ka ha hka p he1 k h1 er h2
 · exact Za0 (Qcw (Zzs _ n h1) (fun _ h => nomatch h)) (fun v Ψ ⟨b, l, a1, a2, a3, a4⟩ => ⟨b, l, a1, (Tb.nilE a2 a3).mono dd oo, a3, a4⟩)
end
end Go.Proofs.YtddhlkfpdjmplaaGreatDoor
