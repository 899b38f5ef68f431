/- Written by a program of ours (gen.py) out of short specifications. By an AI agent. -/
import Derived.Test.YtddhlkfpdjmplaaGreatDoorRefs
set_option linter.unusedVariables false
set_option linter.unusedSimpArgs false
set_option maxRecDepth 4000
namespace Go.Proofs.YtddhlkfpdjmplaaGreatDoor
open Go Go.Proofs Go.Fx
attribute [local irreducible] Oper.wp Code.wp wpList Fx.Head wpOp
def exB (n : Nat) : List UInt8 := if 10 ≤ n then [94, 49, UInt8.ofNat (48 + n - 10)] else if 1 < n then [94, UInt8.ofNat (48 + n)] else []
def lettB (s nm : ByteArray) (n : Nat) : ByteArray :=
  if n = 0 then s else
  if 10 ≤ n then (((if s = ⟨#[]⟩ then s else s ++ ⟨#[42]⟩) ++ nm) ++ ⟨#[94, 49]⟩) ++ ⟨#[UInt8.ofNat (48 + n - 10)]⟩
  else if 1 < n then (((if s = ⟨#[]⟩ then s else s ++ ⟨#[42]⟩) ++ nm) ++ ⟨#[94]⟩) ++ ⟨#[UInt8.ofNat (48 + n)]⟩
  else (if s = ⟨#[]⟩ then s else s ++ ⟨#[42]⟩) ++ nm
def fctB (nm : List UInt8) (n : Nat) : List UInt8 := if n = 0 then [] else nm ++ exB n
theorem ba_nil {s : ByteArray} : s = ⟨#[]⟩ ↔ s.data.toList = [] := by
  constructor
  · intro h; rw [h]
  · intro h; apply ByteArray.ext; apply Array.ext'; rw [h]
theorem lettB_B (s nm : ByteArray) (n : Nat) : (lettB s nm n).data.toList = if n = 0 then s.data.toList else (if s.data.toList = [] then [] else s.data.toList ++ [42]) ++ fctB nm.data.toList n := by
  have e : (if s = ⟨#[]⟩ then s else s ++ ⟨#[42]⟩).data.toList = if s.data.toList = [] then [] else s.data.toList ++ [42] := by
    by_cases h : s = ⟨#[]⟩
    · rw [if_pos h, if_pos (ba_nil.1 h), ba_nil.1 h]
    · rw [if_neg h, if_neg (fun h2 => h (ba_nil.2 h2)), ByteArray.data_append, Array.toList_append]
  unfold lettB fctB exB
  by_cases h0 : n = 0
  · rw [if_pos h0, if_pos h0]
  · rw [if_neg h0, if_neg h0, if_neg h0]
    by_cases h1 : 10 ≤ n
    · rw [if_pos h1, if_pos h1]
      simp only [ByteArray.data_append, Array.toList_append, e, List.append_assoc]; rfl
    · rw [if_neg h1, if_neg h1]
      by_cases h2 : 1 < n
      · rw [if_pos h2, if_pos h2]
        simp only [ByteArray.data_append, Array.toList_append, e, List.append_assoc]; rfl
      · rw [if_neg h2, if_neg h2]
        simp only [ByteArray.data_append, Array.toList_append, e, List.append_nil]
def rT (t : Tm) : ByteArray := lettB (lettB (if txtQ (ab t.c) = ⟨#[49]⟩ ∧ t.i + t.j > 0 then ⟨#[]⟩ else txtQ (ab t.c)) ⟨#[120]⟩ t.i) ⟨#[121]⟩ t.j
theorem ltB_ref : ∀ i, i < 13 → ∀ j, j < 13 → ltB i j = (if j = 0 then fctB [120] i else (if fctB [120] i = [] then [] else fctB [120] i ++ [42]) ++ fctB [121] j) := by decide +kernel
theorem ltB_ref2 : ∀ i, i < 13 → ∀ j, j < 13 → (if i + j = 0 then [] else 42 :: ltB i j) = (if i = 0 then [] else 42 :: fctB [120] i) ++ (if j = 0 then [] else 42 :: fctB [121] j) := by decide +kernel
theorem qB_one : qB ((1 : Int) : Rat) = [49] := by decide +kernel
theorem txt_one {x : Rat} (h : 0 ≤ x.num) : txtQ x = ⟨#[49]⟩ ↔ x = ((1 : Int) : Rat) := by
  have e := txtQ_B h
  constructor
  · intro h1
    rw [h1] at e
    exact qB_inj h (by decide) (by rw [← e, qB_one])
  · intro h1
    apply ByteArray.ext; apply Array.ext'; rw [e, h1, qB_one]
theorem rT_B {t : Tm} (hi : t.i < 13) (hj : t.j < 13) : (rT t).data.toList = tmB' t := by
  have hn : 0 ≤ (ab t.c).num := by rw [(ab_num t.c).1]; omega
  have hq := txtQ_B hn
  unfold rT tmB'
  rw [lettB_B, lettB_B]
  by_cases h1 : ab t.c = ((1 : Int) : Rat) ∧ t.i + t.j ≠ 0
  · have hS : (if txtQ (ab t.c) = ⟨#[49]⟩ ∧ t.i + t.j > 0 then ⟨#[]⟩ else txtQ (ab t.c)) = (⟨#[]⟩ : ByteArray) := if_pos ⟨(txt_one hn).2 h1.1, by omega⟩
    rw [hS, if_pos h1, ltB_ref t.i hi t.j hj]
    by_cases h0 : t.i = 0
    · rw [if_pos h0, h0]; simp [fctB]
    · rw [if_neg h0]; simp
  · have hS : (if txtQ (ab t.c) = ⟨#[49]⟩ ∧ t.i + t.j > 0 then ⟨#[]⟩ else txtQ (ab t.c)) = txtQ (ab t.c) := if_neg (fun h => h1 ⟨(txt_one hn).1 h.1, by have := h.2; omega⟩)
    rw [hS, if_neg h1, ltB_ref2 t.i hi t.j hj, hq]
    have hne := qB_ne (ab t.c)
    by_cases h0 : t.i = 0
    · rw [if_pos h0, if_pos h0, if_neg hne]
      by_cases h2 : t.j = 0
      · rw [if_pos h2, if_pos h2]; simp
      · rw [if_neg h2, if_neg h2]; simp
    · rw [if_neg h0, if_neg h0, if_neg hne]
      have hne2 : (qB (ab t.c) ++ [42]) ++ fctB [120] t.i ≠ [] := by simp
      by_cases h2 : t.j = 0
      · rw [if_pos h2, if_pos h2]; simp
      · rw [if_neg h2, if_neg h2, if_neg hne2]; simp
theorem ltB_ne : ∀ i, i < 13 → ∀ j, j < 13 → i + j ≠ 0 → ltB i j ≠ [] := by decide +kernel
theorem tmB_ne {t : Tm} (hi : t.i < 13) (hj : t.j < 13) : tmB' t ≠ [] := by
  unfold tmB'
  split
  · rename_i h; exact ltB_ne _ hi _ hj h.2
  · exact fun e => qB_ne _ (List.append_eq_nil_iff.1 e).1
structure Vis (X : List Rat) (d j : Nat) (V : List Tm) : Prop where
  nrm : Nrm V
  old : ∀ t ∈ V, t.i + t.j < d ∨ (t.i + t.j = d ∧ t.j < j)
  cf : ∀ a b, a + b < d ∨ (a + b = d ∧ b < j) → lin (at0 a b) V = X.getD (13 * a + b) 0
theorem Vis.zero (X : List Rat) : Vis X 0 0 [] := ⟨⟨(fun _ h => nomatch h), List.Pairwise.nil⟩, (fun _ h => nomatch h), fun a b h => by omega⟩
theorem Vis.row {X : List Rat} {d : Nat} {V : List Tm} (h : Vis X d (d + 1) V) : Vis X (d + 1) 0 V :=
  ⟨h.nrm, fun t ht => by have := h.old t ht; omega, fun a b hab => h.cf a b (by omega)⟩
theorem Vis.no {X : List Rat} {d j : Nat} {V : List Tm} (h : Vis X d j V) (hj : j ≤ d) : lin (at0 (d - j) j) V = 0 :=
  lin_at0_none (fun t ht e => by have := h.old t ht; omega)
theorem Vis.skip {X : List Rat} {d j : Nat} {V : List Tm} (h : Vis X d j V) (hj : j ≤ d) (hz : X.getD (13 * (d - j) + j) 0 = 0) : Vis X d (j + 1) V :=
  ⟨h.nrm, fun t ht => by have := h.old t ht; omega, fun a b hab => by
    by_cases e : a + b = d ∧ b = j
    · obtain ⟨e1, e2⟩ := e
      rw [show a = d - j by omega, e2, h.no hj, hz]
    · exact h.cf a b (by omega)⟩
theorem Vis.step {X : List Rat} {d j : Nat} {V : List Tm} (h : Vis X d j V) (hj : j ≤ d) (hz : X.getD (13 * (d - j) + j) 0 ≠ 0) : Vis X d (j + 1) (V ++ [⟨d - j, j, X.getD (13 * (d - j) + j) 0⟩]) := by
  refine ⟨⟨fun t ht => ?_, ?_⟩, fun t ht => ?_, fun a b hab => ?_⟩
  · rcases List.mem_append.1 ht with ht | ht
    · exact h.nrm.1 t ht
    · rw [List.mem_singleton.1 ht]; exact hz
  · rw [List.pairwise_append]
    refine ⟨h.nrm.2, List.pairwise_singleton _ _, fun s hs t ht => ?_⟩
    rw [List.mem_singleton.1 ht, ltT_iff]
    have := h.old s hs
    simp only; omega
  · rcases List.mem_append.1 ht with ht | ht
    · have := h.old t ht; omega
    · rw [List.mem_singleton.1 ht]; simp only; omega
  · rw [lin_append]
    simp only [lin, at0]
    by_cases e : a + b = d ∧ b = j
    · obtain ⟨e1, e2⟩ := e
      subst e2
      rw [show a = d - b by omega, h.no hj, if_pos ⟨rfl, rfl⟩]; grind
    · rw [if_neg (by omega), h.cf a b (by omega)]; grind
theorem Vis.all {X : List Rat} {K : Nat} {V : List Tm} (h : Vis X 13 0 V) (hX : Tb 12 K X) : V = norm (pol X) := by
  refine nrm_ext h.nrm (norm_nrm _) (fun φ => ?_)
  have key : ∀ a b, lin (at0 a b) (V ++ scaleL (-1) (norm (pol X))) = 0 := fun a b => by
    rw [lin_append, lin_scaleL, lin_norm]
    by_cases hb : b < 13
    · rw [pol_at hb]
      by_cases hd : a + b < 13
      · rw [h.cf a b (by omega)]; grind
      · have h1 : X.getD (13 * a + b) 0 = 0 := by
          by_cases hk : 13 * a + b < 169
          · by_cases h2 : X.getD (13 * a + b) 0 = 0
            · exact h2
            · have := hX.deg _ hk h2; omega
          · rw [List.getD_eq_getElem?_getD, List.getElem?_eq_none (by rw [hX.len]; omega)]; rfl
        rw [h1, lin_at0_none (fun t ht e => by have := h.old t ht; omega)]; grind
    · rw [lin_at0_none (l := V) (fun t ht e => by have := h.old t ht; omega), lin_at0_none (l := pol X) (fun t ht e => by
        obtain ⟨k, _, rfl⟩ := pol_mem ht; have := Nat.mod_lt k (show 0 < 13 by decide); simp only at e; omega)]; grind
  have h2 := eqv_zero key φ
  rw [lin_append, lin_scaleL] at h2
  grind
theorem fuB_nil {V : List Tm} (h : ∀ t ∈ V, t.i < 13 ∧ t.j < 13) : fuB V = [] ↔ V = [] := by
  constructor
  · intro e
    match V, h, e with
    | [], _, _ => rfl
    | t :: r, h, e =>
      exfalso
      rw [fuB] at e
      have h1 := (List.append_eq_nil_iff.1 (List.append_eq_nil_iff.1 e).2).1
      exact tmB_ne (h t List.mem_cons_self).1 (h t List.mem_cons_self).2 h1
  · intro e; subst e; rfl
theorem fuB_one (t : Tm) : fuB [t] = (if t.c.num.sign < 0 then [45] else []) ++ tmB' t := by rw [fuB, tlB, List.append_nil]
def fuA (V : List Tm) : ByteArray := ⟨(fuB V).toArray⟩
theorem fuA_nil {V : List Tm} (h : ∀ t ∈ V, t.i < 13 ∧ t.j < 13) : fuA V = ⟨#[]⟩ ↔ V = [] := by
  rw [ba_nil]; unfold fuA; rw [List.toList_toArray]; exact fuB_nil h
theorem fuA_first {t : Tm} (hi : t.i < 13) (hj : t.j < 13) (s : ByteArray) (hs : s = if t.c.num.sign < 0 then ⟨#[45]⟩ ++ rT t else rT t) : fuA [] ++ s = fuA ([] ++ [t]) := by
  apply ByteArray.ext; apply Array.ext'
  rw [ByteArray.data_append, Array.toList_append]
  unfold fuA
  rw [List.toList_toArray, List.toList_toArray, List.nil_append, fuB_one, ← rT_B hi hj]
  by_cases hg : t.c.num.sign < 0
  · rw [if_pos hg] at hs ⊢; rw [hs]; show _ ++ ((⟨#[45]⟩ : ByteArray) ++ rT t).data.toList = _; rw [ByteArray.data_append, Array.toList_append]; rfl
  · rw [if_neg hg] at hs ⊢; rw [hs]; rfl
theorem fuA_more {t : Tm} {V : List Tm} (hi : t.i < 13) (hj : t.j < 13) (hV : V ≠ []) (s : ByteArray) (hs : s = if t.c.num.sign < 0 then ⟨#[32, 45, 32]⟩ ++ rT t else ⟨#[32, 43, 32]⟩ ++ rT t) : fuA V ++ s = fuA (V ++ [t]) := by
  apply ByteArray.ext; apply Array.ext'
  rw [ByteArray.data_append, Array.toList_append]
  unfold fuA
  match V, hV with
  | u :: r, _ =>
    rw [List.toList_toArray, List.toList_toArray, fuB_snoc, ← rT_B hi hj]
    unfold sgB
    by_cases hg : t.c.num.sign < 0
    · rw [if_pos hg] at hs ⊢; rw [hs]; show _ ++ ((⟨#[32, 45, 32]⟩ : ByteArray) ++ rT t).data.toList = _; rw [ByteArray.data_append, Array.toList_append]
    · rw [if_neg hg] at hs ⊢; rw [hs]; show _ ++ ((⟨#[32, 43, 32]⟩ : ByteArray) ++ rT t).data.toList = _; rw [ByteArray.data_append, Array.toList_append]
theorem txtP_fuA (p : List Tm) : txtP txtQ p = if fuA p = ⟨#[]⟩ then ⟨#[48]⟩ else fuA p := by
  apply ByteArray.ext; apply Array.ext'
  rw [txtP_B]
  by_cases h : fuB p = []
  · rw [if_pos h, if_pos (by rw [ba_nil]; unfold fuA; rw [List.toList_toArray]; exact h)]
  · rw [if_neg h, if_neg (by rw [ba_nil]; unfold fuA; rw [List.toList_toArray]; exact h)]; unfold fuA; rw [List.toList_toArray]
theorem exB_len (n : Nat) : (exB n).length ≤ 3 := by
  unfold exB
  split
  · simp
  · split <;> simp
theorem lettB_size (s nm : ByteArray) (n : Nat) (h : nm.size ≤ 1) : (lettB s nm n).size ≤ s.size + 5 := by
  have e := lettB_B s nm n
  have e2 : ∀ b : ByteArray, b.size = b.data.toList.length := fun b => by rw [Array.length_toList]; rfl
  have h2 := exB_len n
  rw [e2] at h ⊢; rw [e, e2]
  unfold fctB
  split
  · omega
  · split <;> simp only [List.length_append, List.length_cons, List.length_nil] <;> omega
theorem rT_size (t : Tm) {M : Nat} (h : (txtQ (ab t.c)).size ≤ M) : (rT t).size ≤ M + 10 := by
  unfold rT
  have h1 := lettB_size (lettB (if txtQ (ab t.c) = ⟨#[49]⟩ ∧ t.i + t.j > 0 then ⟨#[]⟩ else txtQ (ab t.c)) ⟨#[120]⟩ t.i) ⟨#[121]⟩ t.j (Nat.le_refl _)
  have h2 := lettB_size (if txtQ (ab t.c) = ⟨#[49]⟩ ∧ t.i + t.j > 0 then ⟨#[]⟩ else txtQ (ab t.c)) ⟨#[120]⟩ t.i (Nat.le_refl _)
  have h3 : (if txtQ (ab t.c) = ⟨#[49]⟩ ∧ t.i + t.j > 0 then ⟨#[]⟩ else txtQ (ab t.c)).size ≤ M := by
    split
    · exact Nat.zero_le _
    · exact h
  omega
theorem tmB_len {t : Tm} (hi : t.i < 13) (hj : t.j < 13) {M : Nat} (h : (txtQ (ab t.c)).size ≤ M) : (tmB' t).length ≤ M + 10 := by
  rw [← rT_B hi hj, Array.length_toList]; exact rT_size t h
theorem tlB_len {M : Nat} : ∀ {V : List Tm}, (∀ t ∈ V, t.i < 13 ∧ t.j < 13 ∧ (txtQ (ab t.c)).size ≤ M) → (tlB V).length ≤ V.length * (M + 13)
  | [], _ => Nat.zero_le _
  | t :: V, h => by
    obtain ⟨h1, h2, h3⟩ := h t List.mem_cons_self
    have ih := tlB_len (fun s hs => h s (List.mem_cons_of_mem _ hs))
    have h4 := tmB_len h1 h2 h3
    have h5 : (sgB t).length = 3 := by unfold sgB; split <;> rfl
    rw [tlB, List.length_append, List.length_append, List.length_cons, Nat.add_mul]; omega
theorem fuA_size {M : Nat} {V : List Tm} (h : ∀ t ∈ V, t.i < 13 ∧ t.j < 13 ∧ (txtQ (ab t.c)).size ≤ M) : (fuA V).size ≤ V.length * (M + 13) := by
  show (fuB V).toArray.size ≤ _
  rw [List.size_toArray]
  match V, h with
  | [], _ => exact Nat.zero_le _
  | t :: r, h =>
    obtain ⟨h1, h2, h3⟩ := h t List.mem_cons_self
    have h4 := tmB_len h1 h2 h3
    have h5 := tlB_len (fun s hs => h s (List.mem_cons_of_mem t hs))
    rw [fuB, List.length_append, List.length_append, List.length_cons, Nat.add_mul]
    split <;> simp only [List.length_cons, List.length_nil] <;> omega
def dgX (X : List Rat) : Nat → Int
  | 0 => -1
  | k + 1 => if X.getD k 0 = 0 then dgX X k else max (dgX X k) ((k / 13 + k % 13 : Nat) : Int)
theorem dgX_ge (X : List Rat) : ∀ n, -1 ≤ dgX X n
  | 0 => Int.le_refl _
  | n + 1 => by rw [dgX]; have := dgX_ge X n; split <;> omega
theorem dgX_mem (X : List Rat) : ∀ n k, k < n → X.getD k 0 ≠ 0 → ((k / 13 + k % 13 : Nat) : Int) ≤ dgX X n
  | 0, k, h, _ => absurd h (Nat.not_lt_zero _)
  | n + 1, k, h, hz => by
    rw [dgX]
    by_cases e : k = n
    · subst e; rw [if_neg hz]; omega
    · have := dgX_mem X n k (by omega) hz
      split <;> omega
theorem dgX_top (X : List Rat) : ∀ n, dgX X n = -1 ∨ ∃ k, k < n ∧ X.getD k 0 ≠ 0 ∧ dgX X n = ((k / 13 + k % 13 : Nat) : Int)
  | 0 => .inl rfl
  | n + 1 => by
    rw [dgX]
    by_cases hz : X.getD n 0 = 0
    · rw [if_pos hz]
      rcases dgX_top X n with h | ⟨k, h1, h2, h3⟩
      · exact .inl h
      · exact .inr ⟨k, by omega, h2, h3⟩
    · rw [if_neg hz]
      rcases Int.le_total (dgX X n) ((n / 13 + n % 13 : Nat) : Int) with h | h
      · exact .inr ⟨n, by omega, hz, by omega⟩
      · rw [Int.max_eq_left h]
        rcases dgX_top X n with h | ⟨k, h1, h2, h3⟩
        · exfalso; omega
        · exact .inr ⟨k, by omega, h2, h3⟩
theorem dgX_norm {X : List Rat} (hX : X.length = 169) : dgX X 169 = degN (norm (pol X)) := by
  have hN := norm_nrm (pol X)
  have hc : ∀ t ∈ norm (pol X), ∃ k, k < 169 ∧ X.getD k 0 ≠ 0 ∧ k / 13 + k % 13 = t.i + t.j := fun t ht => by
    obtain ⟨hm, hne⟩ := norm_mem ht
    obtain ⟨u, hu, e1, e2⟩ := collect_mem hm
    obtain ⟨k, hk, rfl⟩ := pol_mem hu
    rw [hX] at hk
    have h1 := nrm_coef hN ht
    rw [lin_norm, e1, e2, pol_at (Nat.mod_lt _ (by decide)), show 13 * (k / 13) + k % 13 = k by omega] at h1
    exact ⟨k, hk, by rw [h1]; exact hne, by simp only at e1 e2; omega⟩
  apply Int.le_antisymm
  · rcases dgX_top X 169 with h | ⟨k, h1, h2, h3⟩
    · rw [h]; exact degN_ge _
    · rw [h3]
      have e := pol_at (X := X) (i := k / 13) (j := k % 13) (Nat.mod_lt _ (by decide))
      rw [show 13 * (k / 13) + k % 13 = k by omega] at e
      obtain ⟨u, hu, u1, u2⟩ := coef_mem (l := pol X) (a := k / 13) (b := k % 13) (by rw [e]; exact h2)
      have := degN_mem hN hu
      rw [u1, u2] at this; exact this
  · refine degN_le' (dgX_ge X 169) (fun t ht => ?_)
    obtain ⟨k, h1, h2, h3⟩ := hc t ht
    have := dgX_mem X 169 k h1 h2
    rw [h3] at this; exact this
theorem Vis.coef {X : List Rat} {d j : Nat} {V : List Tm} (h : Vis X d j V) {t : Tm} (ht : t ∈ V) : t.c = X.getD (13 * t.i + t.j) 0 := by
  rw [← h.cf t.i t.j (by have := h.old t ht; omega)]; exact (nrm_coef h.nrm ht).symm
theorem vis_size {X : List Rat} {d j K D : Nat} {V : List Tm} (hX : Tb D K X) (h : Vis X d j V) (hd : d ≤ 12) : ∀ t ∈ V, (txtQ (ab t.c)).size ≤ 20 * K + 10 := fun t ht => by
  refine txtQ_sizeW _ ?_
  have h1 := h.old t ht
  have h2 := hX.siz (k := 13 * t.i + t.j) (by omega)
  rw [← h.coef ht] at h2
  obtain ⟨e1, e2⟩ := ab_num t.c
  unfold lenQ lenZ at *; rw [e1, e2]; exact h2
theorem C_fAbs (x : Rat) (a1 : Option Addr) (c1 : Nat) (a2 : Option Addr) (c2 : Nat) : CtrV Tryz.prog 87 [fV x a1 c1 a2 c2] (fV (ab x) a1 c1 a2 c2) := by
  refine fn_intro Tryz.func87 rfl Tryz.ntmps87 nb ?_
  intro S w0 a hS h
  refine gC h (zs (zr (zx rfl fun b1 => zz zeroF fun b2 => zn (zs (zs (zr (zd rfl mr Tryz.isAgg56 Tryz.sizeOf56 (rd_3_0_3 _ _ _) ?_))))))); clear h; intro a w h
  refine gL h (zv [_] rfl Tryz.call86 (C_fSign x _ _ _ _) (zp (.lss rfl rfl) (zn ?_))); clear h; intro a w h
  change Code.wp _ _ _ _ _
  refine cond_split h rfl (fun hc5 => ?_) (fun hc5 => ?_)
  · skip
    have hs : x < 0 := (sign_neg x).1 (of_decide_eq_true hc5)
    refine gC h (zs (zr (zd rfl mr Tryz.isAgg56 Tryz.sizeOf56 (rd_3_0_3 _ _ _) ?_))); clear h; intro a w h
    refine gL h (zv [_] rfl Tryz.call126 (C_fNeg x a1 c1 a2 c2) ?_); clear h; intro a w h
    have hl7 := lenQ_neg x
    refine gL h (zt' rfl rfl (st_3_0_3 _ _ _ _ _ _) uu Tryz.sizeOf56 rfl nb rfl ?_); clear h; intro a w h
    refine wpList_nil (wp_ret ?_)
    refine retV h (results1 h rfl (.cell rfl mr Tryz.isAgg56 Tryz.sizeOf56 (rd_3_0_3 _ _ _))) ?_
    unfold ab; rw [if_pos hs]
  · skip
    have hs : ¬ x < 0 := fun h => of_decide_eq_false hc5 ((sign_neg x).2 h)
    refine gC h (zk (zs (zr (zd rfl mr Tryz.isAgg56 Tryz.sizeOf56 (rd_3_0_3 _ _ _) ?_)))); clear h; intro a w h
    refine gL h (zt' rfl rfl (st_3_0_3 _ _ _ _ _ _) uu Tryz.sizeOf56 rfl nb rfl ?_); clear h; intro a w h
    refine wpList_nil (wp_ret ?_)
    refine retV h (results1 h rfl (.cell rfl mr Tryz.isAgg56 Tryz.sizeOf56 (rd_3_0_3 _ _ _))) ?_
    unfold ab; rw [if_neg hs]
theorem C_rAbsText (a1 a2 : Option Addr) (c1 c2 : Nat) (x : Rat) (hx : lenQ x ≤ 100000000000) : CtrW Tryz.prog 56 [fV (ab x) a1 c1 a2 c2] [Row a1 (List.map encn (dg x.num.natAbs)), Row a2 (List.map encn (dg (x.den - 1)))] (.string (txtQ (ab x))) := by
  obtain ⟨h1, h2⟩ := ab_num x
  have h := C_rQText a1 a2 c1 c2 (ab x) (by unfold lenQ lenZ at *; rw [h1, h2]; exact hx)
  have e1 : (ab x).num.natAbs = x.num.natAbs := by rw [h1]; rfl
  have e2 : Row a1 (List.map encn (dg x.num.natAbs)) = Row a1 (List.map encn (dg (ab x).num.natAbs)) := by rw [e1]
  have e3 : Row a2 (List.map encn (dg (x.den - 1))) = Row a2 (List.map encn (dg ((ab x).den - 1))) := by rw [h2]
  rw [e2, e3]; exact h
theorem bi_maxi (x y : Int) (w : World) (ty : TypeId) (cs : Array Bool) : (Go.builtin .max #[3, 3] ty cs #[.int .i64 x, .int .i64 y]).run Tryz.prog w = .ok (.value (.int .i64 (max x y))) w := by
  simp [go_sem] <;> (try rw [Int.max_def]) <;> (try split) <;> (try split) <;> (try omega)
theorem C_tDegree (b1 : Nat) (la : List FT) (hla : la.length = 169) : CtrW Tryz.prog 24 [.slice (some ⟨b1, 0, none⟩) 169 169] [Row (some ⟨b1, 0, none⟩) (cellsOf encF la), AllF la] (.int .i64 (dgX (xs la) 169)) := by
  refine fn_intro Tryz.func24 rfl Tryz.ntmps24 nb ?_
  intro S w0 a hS h
  refine gC h (zs (zr (za rfl (zn (zs (zr (za rfl (zn (zs (zs (zr (za rfl (zn (zb ?_)))))))))))))); clear h; intro a w h
  refine wp_loop_inv (fun (k : Nat) a w => k ≤ 169 ∧ St 23 S w0 [(0, .slice (some ⟨b1, 0, none⟩) 169 169), (2, .int .i64 0), (3, .int .i64 (dgX (xs la) k)), (4, .int .i64 ((k : Nat) : Int))] [] [Row (some ⟨b1, 0, none⟩) (cellsOf encF la), AllF la] a w) (fun k => 169 - k) 0 (⟨Nat.zero_le _, by exact (h).sub (subL ⟨rfl, rfl, rfl, rfl, trivial⟩)⟩) ?_; clear h
  rintro k a w ⟨hi_k, h⟩
  refine gC h (zs (zs (zr (zm rfl (zp (.lss rfl rfl) (zn ?_)))))); clear h; intro a w h
  change Code.wp _ _ _ _ _
  refine cond_split h rfl (fun hc6 => ?_) (fun hc6 => ?_)
  · skip
    have hlt_k : k < 169 := by have := of_decide_eq_true hc6; omega
    have hnl := hla
    refine gC h (zk (zs (zb (zs (zr (zm rfl (zm rfl (zp (.indexAddr rfl rfl (ix_31 _ _ _ _ _ (by omega))) (zD rfl mm (cells_lt (k := 3) (by decide) (fun _ => rfl) la k (by omega)) Tryz.isAgg56 Tryz.sizeOf56 (read_cells (k := 3) (fun _ => rfl) ((fun _ => rfl)) la FT0 k (by omega)) (.inl rfl) ?_))))))))); clear h; intro a w h
    refine gL h (zv [_] rfl Tryz.call86 (C_fSign ((la.getD k FT0).x) _ _ _ _) (zp (.neq rfl rfl) (zn ?_))); clear h; intro a w h
    change Code.wp _ _ _ _ _
    refine cond_split h rfl (fun hc14 => ?_) (fun hc14 => ?_)
    · skip
      have hnz : (xs la).getD k 0 ≠ 0 := fun e => by rw [← xs_get] at e; rw [e] at hc14; exact absurd hc14 (by decide)
      refine gC h (zr (zm rfl (zm rfl (zp (Pure1.cast (v' := .int .i64 (((k) / 13 : Nat) : Int)) (.binOp rfl rfl (fun _ => run_quo _ _ _ _ _ (by decide))) (by rw [show (13 : Int) = ((13 : Nat) : Int) from rfl, tdiv_nat, wrap_i64 _ (by omega) (by omega)])) (zm rfl (zp (Pure1.cast (v' := .int .i64 (((k) % 13 : Nat) : Int)) (.binOp rfl rfl (fun _ => run_rem _ _ _ _ _ (by decide))) (by rw [show (13 : Int) = ((13 : Nat) : Int) from rfl, tmod_nat])) (zp (Pure1.cast (v' := .int .i64 ((k / 13 + k % 13 : Nat) : Int)) (Pure1.cast (v' := (.int .i64 ((((k) / 13) + ((k) % 13) : Nat) : Int))) (.add rfl rfl) (by show Value.int _ _ = Value.int _ _; congr 1)) (by show Value.int _ _ = Value.int _ _; congr 1)) (zp (.builtin [_, _] rfl (fun w ty cs => bi_maxi _ _ w ty cs)) (za rfl (zn (zr (zm rfl (zp (Pure1.cast (v' := (.int .i64 ((k + 1 : Nat) : Int))) (.add rfl rfl) (by show Value.int _ _ = Value.int _ _; congr 1)) (za rfl (zn ?_))))))))))))))); clear h; intro a w h
      rw [show max (dgX (xs la) k) ((k / 13 + k % 13 : Nat) : Int) = dgX (xs la) (k + 1) from (if_neg hnz).symm] at h
      exact ⟨k + 1, ⟨by omega, h.sub sA⟩, by omega⟩
    · skip
      have hnz : (xs la).getD k 0 = 0 := by rw [← xs_get]; exact of_decide_eq_true (by rw [← sgnz]; simpa using hc14)
      refine gC h (zk (zr (zm rfl (zp (Pure1.cast (v' := (.int .i64 ((k + 1 : Nat) : Int))) (.add rfl rfl) (by show Value.int _ _ = Value.int _ _; congr 1)) (za rfl (zn ?_)))))); clear h; intro a w h
      rw [show dgX (xs la) k = dgX (xs la) (k + 1) from (if_pos hnz).symm] at h
      exact ⟨k + 1, ⟨by omega, h.sub sA⟩, by omega⟩
  · skip
    have heq_k : 169 = k := by have := of_decide_eq_false hc6; omega
    subst heq_k
    refine gC h (ze (zs (zr (zm rfl (za rfl (zn (zt ?_))))))); clear h; intro a w h
    refine retV h (results1 h rfl (.tmp rfl)) ?_
    rfl
theorem C_rletter (s nm : ByteArray) (n : Nat) (hn : n ≤ 12) (hsz : s.size ≤ 1000000000000) (hnm : nm.size ≤ 1) : CtrV Tryz.prog 88 [.string s, .string nm, .int .i64 ((n : Nat) : Int)] (.string (lettB s nm n)) := by
  refine fn_intro Tryz.func88 rfl Tryz.ntmps88 nb ?_
  intro S w0 a hS h
  refine gC h (zs (zr (za rfl (zn (zs (zs (zr (zm rfl (zp (.eql rfl rfl) (zn ?_)))))))))); clear h; intro a w h
  change Code.wp _ _ _ _ _
  refine cond_split h rfl (fun hc8 => ?_) (fun hc8 => ?_)
  · skip
    have h0 : n = 0 := natEq' hc8
    refine gC h (zs (zr (zm rfl (za rfl (zn (zt ?_)))))); clear h; intro a w h
    refine retV h (results1 h rfl (.tmp rfl)) ?_
    refine congrArg Value.string ?_
    unfold lettB; first | (rw [if_pos h0]; done) | (rw [if_neg h0, if_pos h1, if_pos hs]; done) | (rw [if_neg h0, if_pos h1, if_neg hs]; done) | (rw [if_neg h0, if_neg h1, if_pos h2, if_pos hs]; done) | (rw [if_neg h0, if_neg h1, if_pos h2, if_neg hs]; done) | (rw [if_neg h0, if_neg h1, if_neg h2, if_pos hs]; done) | (rw [if_neg h0, if_neg h1, if_neg h2, if_neg hs]; done)
  · skip
    have h0 : ¬ n = 0 := natNe' hc8
    refine gC h (zk (zs (zs (zr (zm rfl (zp (.binOp rfl rfl (fun _ => run_sneq _ _ _ _ _)) (zn ?_))))))); clear h; intro a w h
    change Code.wp _ _ _ _ _
    refine cond_split h rfl (fun hc11 => ?_) (fun hc11 => ?_)
    · skip
      have hs : ¬ s = ⟨#[]⟩ := by simpa using hc11
      refine gC h (zr (zm rfl (zp (.binOp rfl rfl (fun _ => run_sadd _ _ _ _ _ (by have e1 : (ByteArray.mk #[42]).size = 1 := rfl; have e2 : (ByteArray.mk #[94]).size = 1 := rfl; have e3 : (ByteArray.mk #[94, 49]).size = 2 := rfl; have e4 : ∀ b : UInt8, (ByteArray.mk #[b]).size = 1 := fun _ => rfl; (try simp only [ByteArray.size_append, e1, e2, e3, e4]); omega))) (za rfl (zn (zs (zr (zm rfl (zm rfl (zp (.binOp rfl rfl (fun _ => run_sadd _ _ _ _ _ (by have e1 : (ByteArray.mk #[42]).size = 1 := rfl; have e2 : (ByteArray.mk #[94]).size = 1 := rfl; have e3 : (ByteArray.mk #[94, 49]).size = 2 := rfl; have e4 : ∀ b : UInt8, (ByteArray.mk #[b]).size = 1 := fun _ => rfl; (try simp only [ByteArray.size_append, e1, e2, e3, e4]); omega))) (za rfl (zn (zs (zs (zr (zm rfl (zp (.geq rfl rfl) (zn ?_)))))))))))))))))); clear h; intro a w h
      change Code.wp _ _ _ _ _
      refine cond_split h rfl (fun hc18 => ?_) (fun hc18 => ?_)
      · skip
        have h1 : 10 ≤ n := by have := of_decide_eq_true hc18; omega
        refine gC h (zs (zr (zm rfl (zp (.binOp rfl rfl (fun _ => run_sadd _ _ _ _ _ (by have e1 : (ByteArray.mk #[42]).size = 1 := rfl; have e2 : (ByteArray.mk #[94]).size = 1 := rfl; have e3 : (ByteArray.mk #[94, 49]).size = 2 := rfl; have e4 : ∀ b : UInt8, (ByteArray.mk #[b]).size = 1 := fun _ => rfl; (try simp only [ByteArray.size_append, e1, e2, e3, e4]); omega))) (zm rfl (zp (Pure1.cast (v' := .int .i64 ((48 + n : Nat) : Int)) (Pure1.cast (v' := (.int .i64 ((48 + n : Nat) : Int))) (.add rfl rfl) (by show Value.int _ _ = Value.int _ _; congr 1)) (by show Value.int _ _ = Value.int _ _; congr 1)) (zp (Pure1.cast (v' := .int .i64 ((48 + n - 10 : Nat) : Int)) (.sub rfl rfl) (by show Value.int _ _ = Value.int _ _; congr 1; omega)) (zp (.convert rfl (cv_3_5b _ (wrap_u8 _ (by omega) (by omega)))) (zp (.convert rfl (cv_byte _ (by omega))) (zp (.binOp rfl rfl (fun _ => run_sadd _ _ _ _ _ (by have e1 : (ByteArray.mk #[42]).size = 1 := rfl; have e2 : (ByteArray.mk #[94]).size = 1 := rfl; have e3 : (ByteArray.mk #[94, 49]).size = 2 := rfl; have e4 : ∀ b : UInt8, (ByteArray.mk #[b]).size = 1 := fun _ => rfl; (try simp only [ByteArray.size_append, e1, e2, e3, e4]); omega))) (za rfl (zn (zt ?_))))))))))))); clear h; intro a w h
        refine retV h (results1 h rfl (.tmp rfl)) ?_
        refine congrArg Value.string ?_
        unfold lettB; first | (rw [if_pos h0]; done) | (rw [if_neg h0, if_pos h1, if_pos hs]; done) | (rw [if_neg h0, if_pos h1, if_neg hs]; done) | (rw [if_neg h0, if_neg h1, if_pos h2, if_pos hs]; done) | (rw [if_neg h0, if_neg h1, if_pos h2, if_neg hs]; done) | (rw [if_neg h0, if_neg h1, if_neg h2, if_pos hs]; done) | (rw [if_neg h0, if_neg h1, if_neg h2, if_neg hs]; done)
      · skip
        have h1 : ¬ 10 ≤ n := by have := of_decide_eq_false hc18; omega
        refine gC h (zk (zs (zs (zr (zm rfl (zp (.gtr rfl rfl) (zn ?_))))))); clear h; intro a w h
        change Code.wp _ _ _ _ _
        refine cond_split h rfl (fun hc28 => ?_) (fun hc28 => ?_)
        · skip
          have h2 : 1 < n := by have := of_decide_eq_true hc28; omega
          refine gC h (zs (zr (zm rfl (zp (.binOp rfl rfl (fun _ => run_sadd _ _ _ _ _ (by have e1 : (ByteArray.mk #[42]).size = 1 := rfl; have e2 : (ByteArray.mk #[94]).size = 1 := rfl; have e3 : (ByteArray.mk #[94, 49]).size = 2 := rfl; have e4 : ∀ b : UInt8, (ByteArray.mk #[b]).size = 1 := fun _ => rfl; (try simp only [ByteArray.size_append, e1, e2, e3, e4]); omega))) (zm rfl (zp (Pure1.cast (v' := .int .i64 ((48 + n : Nat) : Int)) (Pure1.cast (v' := (.int .i64 ((48 + n : Nat) : Int))) (.add rfl rfl) (by show Value.int _ _ = Value.int _ _; congr 1)) (by show Value.int _ _ = Value.int _ _; congr 1)) (zp (.convert rfl (cv_3_5b _ (wrap_u8 _ (by omega) (by omega)))) (zp (.convert rfl (cv_byte _ (by omega))) (zp (.binOp rfl rfl (fun _ => run_sadd _ _ _ _ _ (by have e1 : (ByteArray.mk #[42]).size = 1 := rfl; have e2 : (ByteArray.mk #[94]).size = 1 := rfl; have e3 : (ByteArray.mk #[94, 49]).size = 2 := rfl; have e4 : ∀ b : UInt8, (ByteArray.mk #[b]).size = 1 := fun _ => rfl; (try simp only [ByteArray.size_append, e1, e2, e3, e4]); omega))) (za rfl (zn (zt ?_)))))))))))); clear h; intro a w h
          refine retV h (results1 h rfl (.tmp rfl)) ?_
          refine congrArg Value.string ?_
          unfold lettB; first | (rw [if_pos h0]; done) | (rw [if_neg h0, if_pos h1, if_pos hs]; done) | (rw [if_neg h0, if_pos h1, if_neg hs]; done) | (rw [if_neg h0, if_neg h1, if_pos h2, if_pos hs]; done) | (rw [if_neg h0, if_neg h1, if_pos h2, if_neg hs]; done) | (rw [if_neg h0, if_neg h1, if_neg h2, if_pos hs]; done) | (rw [if_neg h0, if_neg h1, if_neg h2, if_neg hs]; done)
        · skip
          have h2 : ¬ 1 < n := by have := of_decide_eq_false hc28; omega
          refine gC h (zk (zs (zr (zm rfl (za rfl (zn (zt ?_))))))); clear h; intro a w h
          refine retV h (results1 h rfl (.tmp rfl)) ?_
          refine congrArg Value.string ?_
          unfold lettB; first | (rw [if_pos h0]; done) | (rw [if_neg h0, if_pos h1, if_pos hs]; done) | (rw [if_neg h0, if_pos h1, if_neg hs]; done) | (rw [if_neg h0, if_neg h1, if_pos h2, if_pos hs]; done) | (rw [if_neg h0, if_neg h1, if_pos h2, if_neg hs]; done) | (rw [if_neg h0, if_neg h1, if_neg h2, if_pos hs]; done) | (rw [if_neg h0, if_neg h1, if_neg h2, if_neg hs]; done)
    · skip
      have hs : s = ⟨#[]⟩ := by simpa using hc11
      refine gC h (zk (zs (zr (zm rfl (zm rfl (zp (.binOp rfl rfl (fun _ => run_sadd _ _ _ _ _ (by have e1 : (ByteArray.mk #[42]).size = 1 := rfl; have e2 : (ByteArray.mk #[94]).size = 1 := rfl; have e3 : (ByteArray.mk #[94, 49]).size = 2 := rfl; have e4 : ∀ b : UInt8, (ByteArray.mk #[b]).size = 1 := fun _ => rfl; (try simp only [ByteArray.size_append, e1, e2, e3, e4]); omega))) (za rfl (zn (zs (zs (zr (zm rfl (zp (.geq rfl rfl) (zn ?_)))))))))))))); clear h; intro a w h
      change Code.wp _ _ _ _ _
      refine cond_split h rfl (fun hc18 => ?_) (fun hc18 => ?_)
      · skip
        have h1 : 10 ≤ n := by have := of_decide_eq_true hc18; omega
        refine gC h (zs (zr (zm rfl (zp (.binOp rfl rfl (fun _ => run_sadd _ _ _ _ _ (by have e1 : (ByteArray.mk #[42]).size = 1 := rfl; have e2 : (ByteArray.mk #[94]).size = 1 := rfl; have e3 : (ByteArray.mk #[94, 49]).size = 2 := rfl; have e4 : ∀ b : UInt8, (ByteArray.mk #[b]).size = 1 := fun _ => rfl; (try simp only [ByteArray.size_append, e1, e2, e3, e4]); omega))) (zm rfl (zp (Pure1.cast (v' := .int .i64 ((48 + n : Nat) : Int)) (Pure1.cast (v' := (.int .i64 ((48 + n : Nat) : Int))) (.add rfl rfl) (by show Value.int _ _ = Value.int _ _; congr 1)) (by show Value.int _ _ = Value.int _ _; congr 1)) (zp (Pure1.cast (v' := .int .i64 ((48 + n - 10 : Nat) : Int)) (.sub rfl rfl) (by show Value.int _ _ = Value.int _ _; congr 1; omega)) (zp (.convert rfl (cv_3_5b _ (wrap_u8 _ (by omega) (by omega)))) (zp (.convert rfl (cv_byte _ (by omega))) (zp (.binOp rfl rfl (fun _ => run_sadd _ _ _ _ _ (by have e1 : (ByteArray.mk #[42]).size = 1 := rfl; have e2 : (ByteArray.mk #[94]).size = 1 := rfl; have e3 : (ByteArray.mk #[94, 49]).size = 2 := rfl; have e4 : ∀ b : UInt8, (ByteArray.mk #[b]).size = 1 := fun _ => rfl; (try simp only [ByteArray.size_append, e1, e2, e3, e4]); omega))) (za rfl (zn (zt ?_))))))))))))); clear h; intro a w h
        refine retV h (results1 h rfl (.tmp rfl)) ?_
        refine congrArg Value.string ?_
        unfold lettB; first | (rw [if_pos h0]; done) | (rw [if_neg h0, if_pos h1, if_pos hs]; done) | (rw [if_neg h0, if_pos h1, if_neg hs]; done) | (rw [if_neg h0, if_neg h1, if_pos h2, if_pos hs]; done) | (rw [if_neg h0, if_neg h1, if_pos h2, if_neg hs]; done) | (rw [if_neg h0, if_neg h1, if_neg h2, if_pos hs]; done) | (rw [if_neg h0, if_neg h1, if_neg h2, if_neg hs]; done)
      · skip
        have h1 : ¬ 10 ≤ n := by have := of_decide_eq_false hc18; omega
        refine gC h (zk (zs (zs (zr (zm rfl (zp (.gtr rfl rfl) (zn ?_))))))); clear h; intro a w h
        change Code.wp _ _ _ _ _
        refine cond_split h rfl (fun hc28 => ?_) (fun hc28 => ?_)
        · skip
          have h2 : 1 < n := by have := of_decide_eq_true hc28; omega
          refine gC h (zs (zr (zm rfl (zp (.binOp rfl rfl (fun _ => run_sadd _ _ _ _ _ (by have e1 : (ByteArray.mk #[42]).size = 1 := rfl; have e2 : (ByteArray.mk #[94]).size = 1 := rfl; have e3 : (ByteArray.mk #[94, 49]).size = 2 := rfl; have e4 : ∀ b : UInt8, (ByteArray.mk #[b]).size = 1 := fun _ => rfl; (try simp only [ByteArray.size_append, e1, e2, e3, e4]); omega))) (zm rfl (zp (Pure1.cast (v' := .int .i64 ((48 + n : Nat) : Int)) (Pure1.cast (v' := (.int .i64 ((48 + n : Nat) : Int))) (.add rfl rfl) (by show Value.int _ _ = Value.int _ _; congr 1)) (by show Value.int _ _ = Value.int _ _; congr 1)) (zp (.convert rfl (cv_3_5b _ (wrap_u8 _ (by omega) (by omega)))) (zp (.convert rfl (cv_byte _ (by omega))) (zp (.binOp rfl rfl (fun _ => run_sadd _ _ _ _ _ (by have e1 : (ByteArray.mk #[42]).size = 1 := rfl; have e2 : (ByteArray.mk #[94]).size = 1 := rfl; have e3 : (ByteArray.mk #[94, 49]).size = 2 := rfl; have e4 : ∀ b : UInt8, (ByteArray.mk #[b]).size = 1 := fun _ => rfl; (try simp only [ByteArray.size_append, e1, e2, e3, e4]); omega))) (za rfl (zn (zt ?_)))))))))))); clear h; intro a w h
          refine retV h (results1 h rfl (.tmp rfl)) ?_
          refine congrArg Value.string ?_
          unfold lettB; first | (rw [if_pos h0]; done) | (rw [if_neg h0, if_pos h1, if_pos hs]; done) | (rw [if_neg h0, if_pos h1, if_neg hs]; done) | (rw [if_neg h0, if_neg h1, if_pos h2, if_pos hs]; done) | (rw [if_neg h0, if_neg h1, if_pos h2, if_neg hs]; done) | (rw [if_neg h0, if_neg h1, if_neg h2, if_pos hs]; done) | (rw [if_neg h0, if_neg h1, if_neg h2, if_neg hs]; done)
        · skip
          have h2 : ¬ 1 < n := by have := of_decide_eq_false hc28; omega
          refine gC h (zk (zs (zr (zm rfl (za rfl (zn (zt ?_))))))); clear h; intro a w h
          refine retV h (results1 h rfl (.tmp rfl)) ?_
          refine congrArg Value.string ?_
          unfold lettB; first | (rw [if_pos h0]; done) | (rw [if_neg h0, if_pos h1, if_pos hs]; done) | (rw [if_neg h0, if_pos h1, if_neg hs]; done) | (rw [if_neg h0, if_neg h1, if_pos h2, if_pos hs]; done) | (rw [if_neg h0, if_neg h1, if_pos h2, if_neg hs]; done) | (rw [if_neg h0, if_neg h1, if_neg h2, if_pos hs]; done) | (rw [if_neg h0, if_neg h1, if_neg h2, if_neg hs]; done)
theorem C_tText (b1 : Nat) (la : List FT) (K : Nat) (ha : Tb 12 K (xs la)) (hK : K ≤ 1000000) : CtrW Tryz.prog 22 [.slice (some ⟨b1, 0, none⟩) 169 169] [Row (some ⟨b1, 0, none⟩) (cellsOf encF la), AllF la] (.string (txtP txtQ (norm (pol (xs la))))) := by
  refine fn_intro Tryz.func22 rfl Tryz.ntmps22 nb ?_
  intro S w0 a hS h
  refine gC h (zs (zr (za rfl (zn (zs (zr (za rfl (zn (zs (zs (zr (za rfl (zn (zb ?_)))))))))))))); clear h; intro a w h
  refine wp_loop_inv (fun (d : Nat) a w => d ≤ 13 ∧ ∃ V, (Vis (xs la) d 0 V) ∧ St 76 S w0 [(0, .slice (some ⟨b1, 0, none⟩) 169 169), (2, .string (⟨#[]⟩)), (3, .string (fuA V)), (4, .int .i64 ((d : Nat) : Int))] [] [Row (some ⟨b1, 0, none⟩) (cellsOf encF la), AllF la] a w) (fun d => 13 - d) 0 (⟨Nat.zero_le _, [], Vis.zero _, by rw [show fuA [] = ⟨#[]⟩ from rfl]; exact (h).sub (subL ⟨rfl, rfl, rfl, rfl, trivial⟩)⟩) ?_; clear h
  rintro d a w ⟨hi_d, V, hvis0, h⟩
  refine gC h (zs (zs (zr (zm rfl (zp (.lss rfl rfl) (zn ?_)))))); clear h; intro a w h
  change Code.wp _ _ _ _ _
  refine cond_split h rfl (fun hc10 => ?_) (fun hc10 => ?_)
  · skip
    have hlt_d : d < 13 := by have := of_decide_eq_true hc10; omega
    refine gC h (zk (zs (zb (zs (zr (za rfl (zn (zb ?_)))))))); clear h; intro a w h
    refine wp_loop_inv (fun (j : Nat) a w => j ≤ (d + 1) ∧ ∃ V2, (Vis (xs la) d j V2) ∧ St 76 S w0 [(0, .slice (some ⟨b1, 0, none⟩) 169 169), (2, .string (⟨#[]⟩)), (3, .string (fuA V2)), (4, .int .i64 ((d : Nat) : Int)), (5, .int .i64 ((j : Nat) : Int))] [] [Row (some ⟨b1, 0, none⟩) (cellsOf encF la), AllF la] a w) (fun j => (d + 1) - j) 0 (⟨Nat.zero_le _, V, hvis0, by exact (h).sub (subL ⟨rfl, rfl, rfl, rfl, rfl, trivial⟩)⟩) ?_; clear h
    rintro j a w ⟨hi_j, V2, hvis, h⟩
    refine gC h (zs (zs (zr (zm rfl (zm rfl (zp (.leq rfl rfl) (zn ?_))))))); clear h; intro a w h
    change Code.wp _ _ _ _ _
    refine cond_split h rfl (fun hc15 => ?_) (fun hc15 => ?_)
    · skip
      have hlt_j : j < (d + 1) := by have := of_decide_eq_true hc15; omega
      have hzl := ha.sizl (k := (13 * (d - j) + j)) (by omega)
      have hnl := ha.lenl
      have hold : ∀ t ∈ V2, t.i < 13 ∧ t.j < 13 := fun t ht => by have := hvis.old t ht; omega
      have hvl : V2.length ≤ 91 := Nat.le_trans (nrm_len hvis.nrm (d := 12) (fun t ht => by have := hvis.old t ht; omega)) (by decide)
      have hfs : (fuA V2).size ≤ 91 * (20 * K + 23) := Nat.le_trans (fuA_size (M := 20 * K + 10) (fun t ht => ⟨(hold t ht).1, (hold t ht).2, vis_size ha hvis (by omega) t ht⟩)) (Nat.mul_le_mul_right _ hvl)
      replace h := h.derive (R := Row (la.getD ((13 * (d - j) + j)) FT0).a2 (List.map encn (dg ((la.getD ((13 * (d - j) + j)) FT0).x.den - 1)))) (fun X hX => AllF.g2 (hX _ mm) ((13 * (d - j) + j)))
      replace h := h.derive (R := Row (la.getD ((13 * (d - j) + j)) FT0).a1 (List.map encn (dg (la.getD ((13 * (d - j) + j)) FT0).x.num.natAbs))) (fun X hX => AllF.g1 (hX _ mm) ((13 * (d - j) + j)))
      refine gC h (zk (zs (zb (zs (zr (zm rfl (zm rfl (zm rfl (zp (Pure1.cast (v' := (.int .i64 ((d - j : Nat) : Int))) (.sub rfl rfl) (by show Value.int _ _ = Value.int _ _; congr 1; omega)) (zp (Pure1.cast (v' := (.int .i64 ((13 * (d - j) : Nat) : Int))) (.mul rfl rfl) (by show Value.int _ _ = Value.int _ _; congr 1)) (zm rfl (zp (Pure1.cast (v' := (.int .i64 (((13 * (d - j)) + j : Nat) : Int))) (.add rfl rfl) (by show Value.int _ _ = Value.int _ _; congr 1)) (zp (.indexAddr rfl rfl (ix_31 _ _ _ _ _ (by omega))) (zD rfl mm (cells_lt (k := 3) (by decide) (fun _ => rfl) la ((13 * (d - j)) + j) (by omega)) Tryz.isAgg56 Tryz.sizeOf56 (read_cells (k := 3) (fun _ => rfl) ((fun _ => rfl)) la FT0 ((13 * (d - j)) + j) (by omega)) (.inl rfl) ?_)))))))))))))); clear h; intro a w h
      refine gL h (zz zeroF fun b6 => zt' rfl rfl (st_3_0_3 _ _ _ _ _ _) uu Tryz.sizeOf56 rfl nb rfl ?_); clear h; intro a w h
      refine gL h (zn (zs (zs (zr (zd rfl mr Tryz.isAgg56 Tryz.sizeOf56 (rd_3_0_3 _ _ _) ?_))))); clear h; intro a w h
      refine gL h (zv [_] rfl Tryz.call86 (C_fSign ((la.getD ((13 * (d - j)) + j) FT0).x) _ _ _ _) (zp (.eql rfl rfl) ?_)); clear h; intro a w h
      refine by_bool h (fun hc29 h => ?_) (fun hc29 h => ?_)
      · skip
        have hz : (xs la).getD (13 * (d - j) + j) 0 = 0 := by rw [← xs_get]; rw [sgnz] at hc29; exact of_decide_eq_true hc29
        refine wpList_nil ?_
        change Code.wp _ _ _ _ _
        refine cond_true h rfl ?_
        refine gC h (ze (zr (zm rfl (zp (Pure1.cast (v' := (.int .i64 ((j + 1 : Nat) : Int))) (.add rfl rfl) (by show Value.int _ _ = Value.int _ _; congr 1)) (za rfl (zn ?_)))))); clear h; intro a w h
        skip
        exact ⟨j + 1, ⟨by omega, V2, hvis.skip (by omega) hz, by exact ((h.drop sl).factsSub (by simp)).sub sA⟩, by omega⟩
      · skip
        have hnz : (xs la).getD (13 * (d - j) + j) 0 ≠ 0 := by rw [← xs_get]; rw [sgnz] at hc29; exact of_decide_eq_false hc29
        refine wpList_nil ?_
        change Code.wp _ _ _ _ _
        refine cond_false h rfl ?_
        refine gC h (zk (zs (zr (zd rfl mr Tryz.isAgg56 Tryz.sizeOf56 (rd_3_0_3 _ _ _) ?_)))); clear h; intro a w h
        refine gL h (zv [_] rfl Tryz.call87 (C_fAbs ((la.getD (13 * (d - j) + j) FT0).x) _ _ _ _) (zw [_] rfl Tryz.call56 (C_rAbsText _ _ _ _ ((la.getD (13 * (d - j) + j) FT0).x) (by omega)) ?_)); clear h; intro a w h
        have htq := txtQ_sizeW (ab ((la.getD (13 * (d - j) + j) FT0).x)) (K := K) (by have h9 := ha.sizl (k := (13 * (d - j) + j)) (by omega); obtain ⟨e1, e2⟩ := ab_num ((la.getD (13 * (d - j) + j) FT0).x); unfold lenQ lenZ at *; rw [e1, e2]; exact h9)
        have hrs := rT_size (⟨d - j, j, (la.getD (13 * (d - j) + j) FT0).x⟩ : Tm) htq
        refine gL h (za rfl (zn (zs (zs (zr (zm rfl (zp (.binOp rfl rfl (fun _ => run_seql _ _ _ _ _)) ?_))))))); clear h; intro a w h
        refine by_bool h (fun hc34 h => ?_) (fun hc34 h => ?_)
        · skip
          have hs34 : txtQ (ab ((la.getD (13 * (d - j) + j) FT0).x)) = ⟨#[49]⟩ := of_decide_eq_true hc34
          refine gL h (zm rfl (zq 35 rfl rfl (.move rfl) (zq 35 rfl rfl (.gtr rfl rfl) ?_))); clear h; intro a w h
          refine by_bool h (fun hc37 h => ?_) (fun hc37 h => ?_)
          · skip
            have hd37 : 0 < d := by have := of_decide_eq_true hc37; omega
            refine gL h (zp (.pickT rfl rfl) (zn ?_)); clear h; intro a w h
            change Code.wp _ _ _ _ _
            refine cond_true h rfl ?_
            refine gC h (zr (za rfl (zn (zs (zr (zm rfl (zm rfl (zm rfl (zp (Pure1.cast (v' := (.int .i64 ((d - j : Nat) : Int))) (.sub rfl rfl) (by show Value.int _ _ = Value.int _ _; congr 1; omega)) (zv [_, _, _] rfl Tryz.call88 (C_rletter (⟨#[]⟩) ⟨#[120]⟩ (d - j) (by omega) (by first | omega | exact Nat.zero_le _) (Nat.le_refl _)) (zm rfl (zv [_, _, _] rfl Tryz.call88 (C_rletter (lettB (⟨#[]⟩) ⟨#[120]⟩ (d - j)) ⟨#[121]⟩ j (by omega) (by have h9 := lettB_size (⟨#[]⟩) ⟨#[120]⟩ (d - j) (Nat.le_refl _); first | omega | (have h8 : (ByteArray.mk #[]).size = 0 := rfl; omega)) (Nat.le_refl _)) ?_)))))))))))); clear h; intro a w h
            have hSt : (if txtQ (ab (⟨d - j, j, (la.getD (13 * (d - j) + j) FT0).x⟩ : Tm).c) = ⟨#[49]⟩ ∧ (⟨d - j, j, (la.getD (13 * (d - j) + j) FT0).x⟩ : Tm).i + (⟨d - j, j, (la.getD (13 * (d - j) + j) FT0).x⟩ : Tm).j > 0 then ⟨#[]⟩ else txtQ (ab (⟨d - j, j, (la.getD (13 * (d - j) + j) FT0).x⟩ : Tm).c)) = ⟨#[]⟩ := by first | exact if_pos ⟨hs34, by show 0 < d - j + j; omega⟩ | exact if_neg (fun hh => hs34 hh.1) | exact if_neg (fun hh => by have h7 : d - j + j > 0 := hh.2; omega)
            have hr : lettB (lettB (⟨#[]⟩) ⟨#[120]⟩ (d - j)) ⟨#[121]⟩ j = rT (⟨d - j, j, (la.getD (13 * (d - j) + j) FT0).x⟩ : Tm) := by unfold rT; rw [hSt]
            rw [hr] at h
            refine gL h (za rfl (zn (zs (zr (zd rfl mr Tryz.isAgg56 Tryz.sizeOf56 (rd_3_0_3 _ _ _) ?_))))); clear h; intro a w h
            refine gL h (zv [_] rfl Tryz.call86 (C_fSign ((la.getD ((13 * (d - j)) + j) FT0).x) _ _ _ _) (zp (.lss rfl rfl) (za rfl (zn (zs (zb (zs (zr (zm rfl (zp (.binOp rfl rfl (fun _ => run_seql _ _ _ _ _)) ?_)))))))))); clear h; intro a w h
            refine by_bool h (fun hc51 h => ?_) (fun hc51 h => ?_)
            · skip
              have hs51 : fuA V2 = ⟨#[]⟩ := of_decide_eq_true hc51
              refine gL h (zm rfl (zq 52 rfl rfl (.move rfl) (zp (.pickT rfl rfl) (za rfl (zn ?_))))); clear h; intro a w h
              change Code.wp _ _ _ _ _
              refine cond_split h rfl (fun hc49 => ?_) (fun hc49 => ?_)
              · skip
                have hsg : ((la.getD (13 * (d - j) + j) FT0).x).num.sign < 0 := of_decide_eq_true hc49
                refine gC h (zr (zm rfl (zp (.binOp rfl rfl (fun _ => run_sadd _ _ _ _ _ (by have e1 : (ByteArray.mk #[45]).size = 1 := rfl; have e3 : (ByteArray.mk #[32, 45, 32]).size = 3 := rfl; have e4 : (ByteArray.mk #[32, 43, 32]).size = 3 := rfl; (try simp only [ByteArray.size_append, e1, e3, e4]); omega))) (za rfl (zn (zr (zm rfl (zm rfl (zp (.binOp rfl rfl (fun _ => run_sadd _ _ _ _ _ (by have e1 : (ByteArray.mk #[45]).size = 1 := rfl; have e3 : (ByteArray.mk #[32, 45, 32]).size = 3 := rfl; have e4 : (ByteArray.mk #[32, 43, 32]).size = 3 := rfl; (try simp only [ByteArray.size_append, e1, e3, e4]); omega))) (za rfl (zn (zr (zm rfl (zp (Pure1.cast (v' := (.int .i64 ((j + 1 : Nat) : Int))) (.add rfl rfl) (by show Value.int _ _ = Value.int _ _; congr 1)) (za rfl (zn ?_)))))))))))))))); clear h; intro a w h
                have hV0 : V2 = [] := (fuA_nil hold).1 hs51
                have hst : fuA V2 ++ ((⟨#[45]⟩) ++ (rT (⟨d - j, j, (la.getD (13 * (d - j) + j) FT0).x⟩ : Tm))) = fuA (V2 ++ [(⟨d - j, j, (la.getD (13 * (d - j) + j) FT0).x⟩ : Tm)]) := by
                  have h9 := fuA_first (t := (⟨d - j, j, (la.getD (13 * (d - j) + j) FT0).x⟩ : Tm)) (by simp only; omega) (by simp only; omega) (((⟨#[45]⟩) ++ (rT (⟨d - j, j, (la.getD (13 * (d - j) + j) FT0).x⟩ : Tm)))) (by first | exact (if_pos hsg).symm | exact (if_neg hsg).symm)
                  rw [hV0]; exact h9
                rw [hst] at h
                exact ⟨j + 1, ⟨by omega, V2 ++ [(⟨d - j, j, (la.getD (13 * (d - j) + j) FT0).x⟩ : Tm)], by have h9 := hvis.step (by omega) hnz; rw [← xs_get] at h9; exact h9, by exact ((h.drop sl).factsSub (by simp)).sub sA⟩, by omega⟩
              · skip
                have hsg : ¬ ((la.getD (13 * (d - j) + j) FT0).x).num.sign < 0 := of_decide_eq_false hc49
                refine gC h (zs (zr (zm rfl (zp (.binOp rfl rfl (fun _ => run_sneq _ _ _ _ _)) ?_)))); clear h; intro a w h
                refine by_bool h (fun hc59 h => (by exfalso; have h8 : ¬ fuA V2 = ⟨#[]⟩ := (by simpa using hc59); exact h8 hs51)) (fun hc59 h => ?_)
                refine gL h (zm rfl (zo 60 rfl rfl rfl (zp (.pickF rfl rfl) (za rfl (zn ?_))))); clear h; intro a w h
                change Code.wp _ _ _ _ _
                refine cond_false h rfl ?_
                refine gC h (zs (zr (zm rfl (zp (.binOp rfl rfl (fun _ => run_sneq _ _ _ _ _)) ?_)))); clear h; intro a w h
                refine by_bool h (fun hc67 h => (by exfalso; have h8 : ¬ fuA V2 = ⟨#[]⟩ := (by simpa using hc67); exact h8 hs51)) (fun hc67 h => ?_)
                refine gL h (za rfl (zn ?_)); clear h; intro a w h
                change Code.wp _ _ _ _ _
                refine cond_false h rfl ?_
                refine gC h (zk (zr (zm rfl (zm rfl (zp (.binOp rfl rfl (fun _ => run_sadd _ _ _ _ _ (by have e1 : (ByteArray.mk #[45]).size = 1 := rfl; have e3 : (ByteArray.mk #[32, 45, 32]).size = 3 := rfl; have e4 : (ByteArray.mk #[32, 43, 32]).size = 3 := rfl; (try simp only [ByteArray.size_append, e1, e3, e4]); omega))) (za rfl (zn (zr (zm rfl (zp (Pure1.cast (v' := (.int .i64 ((j + 1 : Nat) : Int))) (.add rfl rfl) (by show Value.int _ _ = Value.int _ _; congr 1)) (za rfl (zn ?_)))))))))))); clear h; intro a w h
                have hV0 : V2 = [] := (fuA_nil hold).1 hs51
                have hst : fuA V2 ++ (rT (⟨d - j, j, (la.getD (13 * (d - j) + j) FT0).x⟩ : Tm)) = fuA (V2 ++ [(⟨d - j, j, (la.getD (13 * (d - j) + j) FT0).x⟩ : Tm)]) := by
                  have h9 := fuA_first (t := (⟨d - j, j, (la.getD (13 * (d - j) + j) FT0).x⟩ : Tm)) (by simp only; omega) (by simp only; omega) ((rT (⟨d - j, j, (la.getD (13 * (d - j) + j) FT0).x⟩ : Tm))) (by first | exact (if_pos hsg).symm | exact (if_neg hsg).symm)
                  rw [hV0]; exact h9
                rw [hst] at h
                exact ⟨j + 1, ⟨by omega, V2 ++ [(⟨d - j, j, (la.getD (13 * (d - j) + j) FT0).x⟩ : Tm)], by have h9 := hvis.step (by omega) hnz; rw [← xs_get] at h9; exact h9, by exact ((h.drop sl).factsSub (by simp)).sub sA⟩, by omega⟩
            · skip
              have hs51 : ¬ fuA V2 = ⟨#[]⟩ := of_decide_eq_false hc51
              refine gL h (zm rfl (zo 52 rfl rfl rfl (zp (.pickF rfl rfl) (za rfl (zn ?_))))); clear h; intro a w h
              change Code.wp _ _ _ _ _
              refine cond_false h rfl ?_
              refine gC h (zs (zr (zm rfl (zp (.binOp rfl rfl (fun _ => run_sneq _ _ _ _ _)) ?_)))); clear h; intro a w h
              refine by_bool h (fun hc59 h => ?_) (fun hc59 h => (by exfalso; have h8 : fuA V2 = ⟨#[]⟩ := (by simpa using hc59); exact hs51 h8))
              refine gL h (zm rfl (zq 60 rfl rfl (.move rfl) (zp (.pickT rfl rfl) (za rfl (zn ?_))))); clear h; intro a w h
              change Code.wp _ _ _ _ _
              refine cond_split h rfl (fun hc57 => ?_) (fun hc57 => ?_)
              · skip
                have hsg : ((la.getD (13 * (d - j) + j) FT0).x).num.sign < 0 := of_decide_eq_true hc57
                refine gC h (zr (zm rfl (zp (.binOp rfl rfl (fun _ => run_sadd _ _ _ _ _ (by have e1 : (ByteArray.mk #[45]).size = 1 := rfl; have e3 : (ByteArray.mk #[32, 45, 32]).size = 3 := rfl; have e4 : (ByteArray.mk #[32, 43, 32]).size = 3 := rfl; (try simp only [ByteArray.size_append, e1, e3, e4]); omega))) (za rfl (zn (zr (zm rfl (zm rfl (zp (.binOp rfl rfl (fun _ => run_sadd _ _ _ _ _ (by have e1 : (ByteArray.mk #[45]).size = 1 := rfl; have e3 : (ByteArray.mk #[32, 45, 32]).size = 3 := rfl; have e4 : (ByteArray.mk #[32, 43, 32]).size = 3 := rfl; (try simp only [ByteArray.size_append, e1, e3, e4]); omega))) (za rfl (zn (zr (zm rfl (zp (Pure1.cast (v' := (.int .i64 ((j + 1 : Nat) : Int))) (.add rfl rfl) (by show Value.int _ _ = Value.int _ _; congr 1)) (za rfl (zn ?_)))))))))))))))); clear h; intro a w h
                have hV0 : V2 ≠ [] := fun e9 => hs51 ((fuA_nil hold).2 e9)
                have hst : fuA V2 ++ ((⟨#[32, 45, 32]⟩) ++ (rT (⟨d - j, j, (la.getD (13 * (d - j) + j) FT0).x⟩ : Tm))) = fuA (V2 ++ [(⟨d - j, j, (la.getD (13 * (d - j) + j) FT0).x⟩ : Tm)]) := fuA_more (t := (⟨d - j, j, (la.getD (13 * (d - j) + j) FT0).x⟩ : Tm)) (by simp only; omega) (by simp only; omega) hV0 (((⟨#[32, 45, 32]⟩) ++ (rT (⟨d - j, j, (la.getD (13 * (d - j) + j) FT0).x⟩ : Tm)))) (by first | exact (if_pos hsg).symm | exact (if_neg hsg).symm)
                rw [hst] at h
                exact ⟨j + 1, ⟨by omega, V2 ++ [(⟨d - j, j, (la.getD (13 * (d - j) + j) FT0).x⟩ : Tm)], by have h9 := hvis.step (by omega) hnz; rw [← xs_get] at h9; exact h9, by exact ((h.drop sl).factsSub (by simp)).sub sA⟩, by omega⟩
              · skip
                have hsg : ¬ ((la.getD (13 * (d - j) + j) FT0).x).num.sign < 0 := of_decide_eq_false hc57
                refine gC h (zs (zr (zm rfl (zp (.binOp rfl rfl (fun _ => run_sneq _ _ _ _ _)) ?_)))); clear h; intro a w h
                refine by_bool h (fun hc67 h => ?_) (fun hc67 h => (by exfalso; have h8 : fuA V2 = ⟨#[]⟩ := (by simpa using hc67); exact hs51 h8))
                refine gL h (za rfl (zn ?_)); clear h; intro a w h
                change Code.wp _ _ _ _ _
                refine cond_true h rfl ?_
                refine gC h (zr (zm rfl (zp (.binOp rfl rfl (fun _ => run_sadd _ _ _ _ _ (by have e1 : (ByteArray.mk #[45]).size = 1 := rfl; have e3 : (ByteArray.mk #[32, 45, 32]).size = 3 := rfl; have e4 : (ByteArray.mk #[32, 43, 32]).size = 3 := rfl; (try simp only [ByteArray.size_append, e1, e3, e4]); omega))) (za rfl (zn (zr (zm rfl (zm rfl (zp (.binOp rfl rfl (fun _ => run_sadd _ _ _ _ _ (by have e1 : (ByteArray.mk #[45]).size = 1 := rfl; have e3 : (ByteArray.mk #[32, 45, 32]).size = 3 := rfl; have e4 : (ByteArray.mk #[32, 43, 32]).size = 3 := rfl; (try simp only [ByteArray.size_append, e1, e3, e4]); omega))) (za rfl (zn (zr (zm rfl (zp (Pure1.cast (v' := (.int .i64 ((j + 1 : Nat) : Int))) (.add rfl rfl) (by show Value.int _ _ = Value.int _ _; congr 1)) (za rfl (zn ?_)))))))))))))))); clear h; intro a w h
                have hV0 : V2 ≠ [] := fun e9 => hs51 ((fuA_nil hold).2 e9)
                have hst : fuA V2 ++ ((⟨#[32, 43, 32]⟩) ++ (rT (⟨d - j, j, (la.getD (13 * (d - j) + j) FT0).x⟩ : Tm))) = fuA (V2 ++ [(⟨d - j, j, (la.getD (13 * (d - j) + j) FT0).x⟩ : Tm)]) := fuA_more (t := (⟨d - j, j, (la.getD (13 * (d - j) + j) FT0).x⟩ : Tm)) (by simp only; omega) (by simp only; omega) hV0 (((⟨#[32, 43, 32]⟩) ++ (rT (⟨d - j, j, (la.getD (13 * (d - j) + j) FT0).x⟩ : Tm)))) (by first | exact (if_pos hsg).symm | exact (if_neg hsg).symm)
                rw [hst] at h
                exact ⟨j + 1, ⟨by omega, V2 ++ [(⟨d - j, j, (la.getD (13 * (d - j) + j) FT0).x⟩ : Tm)], by have h9 := hvis.step (by omega) hnz; rw [← xs_get] at h9; exact h9, by exact ((h.drop sl).factsSub (by simp)).sub sA⟩, by omega⟩
          · skip
            have hd37 : ¬ 0 < d := by have := of_decide_eq_false hc37; omega
            refine gL h (zp (.pickT rfl rfl) (zn ?_)); clear h; intro a w h
            change Code.wp _ _ _ _ _
            refine cond_false h rfl ?_
            refine gC h (zk (zs (zr (zm rfl (zm rfl (zm rfl (zp (Pure1.cast (v' := (.int .i64 ((d - j : Nat) : Int))) (.sub rfl rfl) (by show Value.int _ _ = Value.int _ _; congr 1; omega)) (zv [_, _, _] rfl Tryz.call88 (C_rletter (txtQ (ab ((la.getD (13 * (d - j) + j) FT0).x))) ⟨#[120]⟩ (d - j) (by omega) (by first | omega | exact Nat.zero_le _) (Nat.le_refl _)) (zm rfl (zv [_, _, _] rfl Tryz.call88 (C_rletter (lettB (txtQ (ab ((la.getD (13 * (d - j) + j) FT0).x))) ⟨#[120]⟩ (d - j)) ⟨#[121]⟩ j (by omega) (by have h9 := lettB_size (txtQ (ab ((la.getD (13 * (d - j) + j) FT0).x))) ⟨#[120]⟩ (d - j) (Nat.le_refl _); first | omega | (have h8 : (ByteArray.mk #[]).size = 0 := rfl; omega)) (Nat.le_refl _)) ?_)))))))))); clear h; intro a w h
            have hSt : (if txtQ (ab (⟨d - j, j, (la.getD (13 * (d - j) + j) FT0).x⟩ : Tm).c) = ⟨#[49]⟩ ∧ (⟨d - j, j, (la.getD (13 * (d - j) + j) FT0).x⟩ : Tm).i + (⟨d - j, j, (la.getD (13 * (d - j) + j) FT0).x⟩ : Tm).j > 0 then ⟨#[]⟩ else txtQ (ab (⟨d - j, j, (la.getD (13 * (d - j) + j) FT0).x⟩ : Tm).c)) = txtQ (ab ((la.getD (13 * (d - j) + j) FT0).x)) := by first | exact if_pos ⟨hs34, by show 0 < d - j + j; omega⟩ | exact if_neg (fun hh => hs34 hh.1) | exact if_neg (fun hh => by have h7 : d - j + j > 0 := hh.2; omega)
            have hr : lettB (lettB (txtQ (ab ((la.getD (13 * (d - j) + j) FT0).x))) ⟨#[120]⟩ (d - j)) ⟨#[121]⟩ j = rT (⟨d - j, j, (la.getD (13 * (d - j) + j) FT0).x⟩ : Tm) := by unfold rT; rw [hSt]
            rw [hr] at h
            refine gL h (za rfl (zn (zs (zr (zd rfl mr Tryz.isAgg56 Tryz.sizeOf56 (rd_3_0_3 _ _ _) ?_))))); clear h; intro a w h
            refine gL h (zv [_] rfl Tryz.call86 (C_fSign ((la.getD ((13 * (d - j)) + j) FT0).x) _ _ _ _) (zp (.lss rfl rfl) (za rfl (zn (zs (zb (zs (zr (zm rfl (zp (.binOp rfl rfl (fun _ => run_seql _ _ _ _ _)) ?_)))))))))); clear h; intro a w h
            refine by_bool h (fun hc51 h => ?_) (fun hc51 h => ?_)
            · skip
              have hs51 : fuA V2 = ⟨#[]⟩ := of_decide_eq_true hc51
              refine gL h (zm rfl (zq 52 rfl rfl (.move rfl) (zp (.pickT rfl rfl) (za rfl (zn ?_))))); clear h; intro a w h
              change Code.wp _ _ _ _ _
              refine cond_split h rfl (fun hc49 => ?_) (fun hc49 => ?_)
              · skip
                have hsg : ((la.getD (13 * (d - j) + j) FT0).x).num.sign < 0 := of_decide_eq_true hc49
                refine gC h (zr (zm rfl (zp (.binOp rfl rfl (fun _ => run_sadd _ _ _ _ _ (by have e1 : (ByteArray.mk #[45]).size = 1 := rfl; have e3 : (ByteArray.mk #[32, 45, 32]).size = 3 := rfl; have e4 : (ByteArray.mk #[32, 43, 32]).size = 3 := rfl; (try simp only [ByteArray.size_append, e1, e3, e4]); omega))) (za rfl (zn (zr (zm rfl (zm rfl (zp (.binOp rfl rfl (fun _ => run_sadd _ _ _ _ _ (by have e1 : (ByteArray.mk #[45]).size = 1 := rfl; have e3 : (ByteArray.mk #[32, 45, 32]).size = 3 := rfl; have e4 : (ByteArray.mk #[32, 43, 32]).size = 3 := rfl; (try simp only [ByteArray.size_append, e1, e3, e4]); omega))) (za rfl (zn (zr (zm rfl (zp (Pure1.cast (v' := (.int .i64 ((j + 1 : Nat) : Int))) (.add rfl rfl) (by show Value.int _ _ = Value.int _ _; congr 1)) (za rfl (zn ?_)))))))))))))))); clear h; intro a w h
                have hV0 : V2 = [] := (fuA_nil hold).1 hs51
                have hst : fuA V2 ++ ((⟨#[45]⟩) ++ (rT (⟨d - j, j, (la.getD (13 * (d - j) + j) FT0).x⟩ : Tm))) = fuA (V2 ++ [(⟨d - j, j, (la.getD (13 * (d - j) + j) FT0).x⟩ : Tm)]) := by
                  have h9 := fuA_first (t := (⟨d - j, j, (la.getD (13 * (d - j) + j) FT0).x⟩ : Tm)) (by simp only; omega) (by simp only; omega) (((⟨#[45]⟩) ++ (rT (⟨d - j, j, (la.getD (13 * (d - j) + j) FT0).x⟩ : Tm)))) (by first | exact (if_pos hsg).symm | exact (if_neg hsg).symm)
                  rw [hV0]; exact h9
                rw [hst] at h
                exact ⟨j + 1, ⟨by omega, V2 ++ [(⟨d - j, j, (la.getD (13 * (d - j) + j) FT0).x⟩ : Tm)], by have h9 := hvis.step (by omega) hnz; rw [← xs_get] at h9; exact h9, by exact ((h.drop sl).factsSub (by simp)).sub sA⟩, by omega⟩
              · skip
                have hsg : ¬ ((la.getD (13 * (d - j) + j) FT0).x).num.sign < 0 := of_decide_eq_false hc49
                refine gC h (zs (zr (zm rfl (zp (.binOp rfl rfl (fun _ => run_sneq _ _ _ _ _)) ?_)))); clear h; intro a w h
                refine by_bool h (fun hc59 h => (by exfalso; have h8 : ¬ fuA V2 = ⟨#[]⟩ := (by simpa using hc59); exact h8 hs51)) (fun hc59 h => ?_)
                refine gL h (zm rfl (zo 60 rfl rfl rfl (zp (.pickF rfl rfl) (za rfl (zn ?_))))); clear h; intro a w h
                change Code.wp _ _ _ _ _
                refine cond_false h rfl ?_
                refine gC h (zs (zr (zm rfl (zp (.binOp rfl rfl (fun _ => run_sneq _ _ _ _ _)) ?_)))); clear h; intro a w h
                refine by_bool h (fun hc67 h => (by exfalso; have h8 : ¬ fuA V2 = ⟨#[]⟩ := (by simpa using hc67); exact h8 hs51)) (fun hc67 h => ?_)
                refine gL h (za rfl (zn ?_)); clear h; intro a w h
                change Code.wp _ _ _ _ _
                refine cond_false h rfl ?_
                refine gC h (zk (zr (zm rfl (zm rfl (zp (.binOp rfl rfl (fun _ => run_sadd _ _ _ _ _ (by have e1 : (ByteArray.mk #[45]).size = 1 := rfl; have e3 : (ByteArray.mk #[32, 45, 32]).size = 3 := rfl; have e4 : (ByteArray.mk #[32, 43, 32]).size = 3 := rfl; (try simp only [ByteArray.size_append, e1, e3, e4]); omega))) (za rfl (zn (zr (zm rfl (zp (Pure1.cast (v' := (.int .i64 ((j + 1 : Nat) : Int))) (.add rfl rfl) (by show Value.int _ _ = Value.int _ _; congr 1)) (za rfl (zn ?_)))))))))))); clear h; intro a w h
                have hV0 : V2 = [] := (fuA_nil hold).1 hs51
                have hst : fuA V2 ++ (rT (⟨d - j, j, (la.getD (13 * (d - j) + j) FT0).x⟩ : Tm)) = fuA (V2 ++ [(⟨d - j, j, (la.getD (13 * (d - j) + j) FT0).x⟩ : Tm)]) := by
                  have h9 := fuA_first (t := (⟨d - j, j, (la.getD (13 * (d - j) + j) FT0).x⟩ : Tm)) (by simp only; omega) (by simp only; omega) ((rT (⟨d - j, j, (la.getD (13 * (d - j) + j) FT0).x⟩ : Tm))) (by first | exact (if_pos hsg).symm | exact (if_neg hsg).symm)
                  rw [hV0]; exact h9
                rw [hst] at h
                exact ⟨j + 1, ⟨by omega, V2 ++ [(⟨d - j, j, (la.getD (13 * (d - j) + j) FT0).x⟩ : Tm)], by have h9 := hvis.step (by omega) hnz; rw [← xs_get] at h9; exact h9, by exact ((h.drop sl).factsSub (by simp)).sub sA⟩, by omega⟩
            · skip
              have hs51 : ¬ fuA V2 = ⟨#[]⟩ := of_decide_eq_false hc51
              refine gL h (zm rfl (zo 52 rfl rfl rfl (zp (.pickF rfl rfl) (za rfl (zn ?_))))); clear h; intro a w h
              change Code.wp _ _ _ _ _
              refine cond_false h rfl ?_
              refine gC h (zs (zr (zm rfl (zp (.binOp rfl rfl (fun _ => run_sneq _ _ _ _ _)) ?_)))); clear h; intro a w h
              refine by_bool h (fun hc59 h => ?_) (fun hc59 h => (by exfalso; have h8 : fuA V2 = ⟨#[]⟩ := (by simpa using hc59); exact hs51 h8))
              refine gL h (zm rfl (zq 60 rfl rfl (.move rfl) (zp (.pickT rfl rfl) (za rfl (zn ?_))))); clear h; intro a w h
              change Code.wp _ _ _ _ _
              refine cond_split h rfl (fun hc57 => ?_) (fun hc57 => ?_)
              · skip
                have hsg : ((la.getD (13 * (d - j) + j) FT0).x).num.sign < 0 := of_decide_eq_true hc57
                refine gC h (zr (zm rfl (zp (.binOp rfl rfl (fun _ => run_sadd _ _ _ _ _ (by have e1 : (ByteArray.mk #[45]).size = 1 := rfl; have e3 : (ByteArray.mk #[32, 45, 32]).size = 3 := rfl; have e4 : (ByteArray.mk #[32, 43, 32]).size = 3 := rfl; (try simp only [ByteArray.size_append, e1, e3, e4]); omega))) (za rfl (zn (zr (zm rfl (zm rfl (zp (.binOp rfl rfl (fun _ => run_sadd _ _ _ _ _ (by have e1 : (ByteArray.mk #[45]).size = 1 := rfl; have e3 : (ByteArray.mk #[32, 45, 32]).size = 3 := rfl; have e4 : (ByteArray.mk #[32, 43, 32]).size = 3 := rfl; (try simp only [ByteArray.size_append, e1, e3, e4]); omega))) (za rfl (zn (zr (zm rfl (zp (Pure1.cast (v' := (.int .i64 ((j + 1 : Nat) : Int))) (.add rfl rfl) (by show Value.int _ _ = Value.int _ _; congr 1)) (za rfl (zn ?_)))))))))))))))); clear h; intro a w h
                have hV0 : V2 ≠ [] := fun e9 => hs51 ((fuA_nil hold).2 e9)
                have hst : fuA V2 ++ ((⟨#[32, 45, 32]⟩) ++ (rT (⟨d - j, j, (la.getD (13 * (d - j) + j) FT0).x⟩ : Tm))) = fuA (V2 ++ [(⟨d - j, j, (la.getD (13 * (d - j) + j) FT0).x⟩ : Tm)]) := fuA_more (t := (⟨d - j, j, (la.getD (13 * (d - j) + j) FT0).x⟩ : Tm)) (by simp only; omega) (by simp only; omega) hV0 (((⟨#[32, 45, 32]⟩) ++ (rT (⟨d - j, j, (la.getD (13 * (d - j) + j) FT0).x⟩ : Tm)))) (by first | exact (if_pos hsg).symm | exact (if_neg hsg).symm)
                rw [hst] at h
                exact ⟨j + 1, ⟨by omega, V2 ++ [(⟨d - j, j, (la.getD (13 * (d - j) + j) FT0).x⟩ : Tm)], by have h9 := hvis.step (by omega) hnz; rw [← xs_get] at h9; exact h9, by exact ((h.drop sl).factsSub (by simp)).sub sA⟩, by omega⟩
              · skip
                have hsg : ¬ ((la.getD (13 * (d - j) + j) FT0).x).num.sign < 0 := of_decide_eq_false hc57
                refine gC h (zs (zr (zm rfl (zp (.binOp rfl rfl (fun _ => run_sneq _ _ _ _ _)) ?_)))); clear h; intro a w h
                refine by_bool h (fun hc67 h => ?_) (fun hc67 h => (by exfalso; have h8 : fuA V2 = ⟨#[]⟩ := (by simpa using hc67); exact hs51 h8))
                refine gL h (za rfl (zn ?_)); clear h; intro a w h
                change Code.wp _ _ _ _ _
                refine cond_true h rfl ?_
                refine gC h (zr (zm rfl (zp (.binOp rfl rfl (fun _ => run_sadd _ _ _ _ _ (by have e1 : (ByteArray.mk #[45]).size = 1 := rfl; have e3 : (ByteArray.mk #[32, 45, 32]).size = 3 := rfl; have e4 : (ByteArray.mk #[32, 43, 32]).size = 3 := rfl; (try simp only [ByteArray.size_append, e1, e3, e4]); omega))) (za rfl (zn (zr (zm rfl (zm rfl (zp (.binOp rfl rfl (fun _ => run_sadd _ _ _ _ _ (by have e1 : (ByteArray.mk #[45]).size = 1 := rfl; have e3 : (ByteArray.mk #[32, 45, 32]).size = 3 := rfl; have e4 : (ByteArray.mk #[32, 43, 32]).size = 3 := rfl; (try simp only [ByteArray.size_append, e1, e3, e4]); omega))) (za rfl (zn (zr (zm rfl (zp (Pure1.cast (v' := (.int .i64 ((j + 1 : Nat) : Int))) (.add rfl rfl) (by show Value.int _ _ = Value.int _ _; congr 1)) (za rfl (zn ?_)))))))))))))))); clear h; intro a w h
                have hV0 : V2 ≠ [] := fun e9 => hs51 ((fuA_nil hold).2 e9)
                have hst : fuA V2 ++ ((⟨#[32, 43, 32]⟩) ++ (rT (⟨d - j, j, (la.getD (13 * (d - j) + j) FT0).x⟩ : Tm))) = fuA (V2 ++ [(⟨d - j, j, (la.getD (13 * (d - j) + j) FT0).x⟩ : Tm)]) := fuA_more (t := (⟨d - j, j, (la.getD (13 * (d - j) + j) FT0).x⟩ : Tm)) (by simp only; omega) (by simp only; omega) hV0 (((⟨#[32, 43, 32]⟩) ++ (rT (⟨d - j, j, (la.getD (13 * (d - j) + j) FT0).x⟩ : Tm)))) (by first | exact (if_pos hsg).symm | exact (if_neg hsg).symm)
                rw [hst] at h
                exact ⟨j + 1, ⟨by omega, V2 ++ [(⟨d - j, j, (la.getD (13 * (d - j) + j) FT0).x⟩ : Tm)], by have h9 := hvis.step (by omega) hnz; rw [← xs_get] at h9; exact h9, by exact ((h.drop sl).factsSub (by simp)).sub sA⟩, by omega⟩
        · skip
          have hs34 : ¬ txtQ (ab ((la.getD (13 * (d - j) + j) FT0).x)) = ⟨#[49]⟩ := of_decide_eq_false hc34
          refine gL h (zm rfl (zo 35 rfl rfl rfl (zo 35 rfl rfl rfl (zp (.pickF rfl rfl) (zn ?_))))); clear h; intro a w h
          change Code.wp _ _ _ _ _
          refine cond_false h rfl ?_
          refine gC h (zk (zs (zr (zm rfl (zm rfl (zm rfl (zp (Pure1.cast (v' := (.int .i64 ((d - j : Nat) : Int))) (.sub rfl rfl) (by show Value.int _ _ = Value.int _ _; congr 1; omega)) (zv [_, _, _] rfl Tryz.call88 (C_rletter (txtQ (ab ((la.getD (13 * (d - j) + j) FT0).x))) ⟨#[120]⟩ (d - j) (by omega) (by first | omega | exact Nat.zero_le _) (Nat.le_refl _)) (zm rfl (zv [_, _, _] rfl Tryz.call88 (C_rletter (lettB (txtQ (ab ((la.getD (13 * (d - j) + j) FT0).x))) ⟨#[120]⟩ (d - j)) ⟨#[121]⟩ j (by omega) (by have h9 := lettB_size (txtQ (ab ((la.getD (13 * (d - j) + j) FT0).x))) ⟨#[120]⟩ (d - j) (Nat.le_refl _); first | omega | (have h8 : (ByteArray.mk #[]).size = 0 := rfl; omega)) (Nat.le_refl _)) ?_)))))))))); clear h; intro a w h
          have hSt : (if txtQ (ab (⟨d - j, j, (la.getD (13 * (d - j) + j) FT0).x⟩ : Tm).c) = ⟨#[49]⟩ ∧ (⟨d - j, j, (la.getD (13 * (d - j) + j) FT0).x⟩ : Tm).i + (⟨d - j, j, (la.getD (13 * (d - j) + j) FT0).x⟩ : Tm).j > 0 then ⟨#[]⟩ else txtQ (ab (⟨d - j, j, (la.getD (13 * (d - j) + j) FT0).x⟩ : Tm).c)) = txtQ (ab ((la.getD (13 * (d - j) + j) FT0).x)) := by first | exact if_pos ⟨hs34, by show 0 < d - j + j; omega⟩ | exact if_neg (fun hh => hs34 hh.1) | exact if_neg (fun hh => by have h7 : d - j + j > 0 := hh.2; omega)
          have hr : lettB (lettB (txtQ (ab ((la.getD (13 * (d - j) + j) FT0).x))) ⟨#[120]⟩ (d - j)) ⟨#[121]⟩ j = rT (⟨d - j, j, (la.getD (13 * (d - j) + j) FT0).x⟩ : Tm) := by unfold rT; rw [hSt]
          rw [hr] at h
          refine gL h (za rfl (zn (zs (zr (zd rfl mr Tryz.isAgg56 Tryz.sizeOf56 (rd_3_0_3 _ _ _) ?_))))); clear h; intro a w h
          refine gL h (zv [_] rfl Tryz.call86 (C_fSign ((la.getD ((13 * (d - j)) + j) FT0).x) _ _ _ _) (zp (.lss rfl rfl) (za rfl (zn (zs (zb (zs (zr (zm rfl (zp (.binOp rfl rfl (fun _ => run_seql _ _ _ _ _)) ?_)))))))))); clear h; intro a w h
          refine by_bool h (fun hc51 h => ?_) (fun hc51 h => ?_)
          · skip
            have hs51 : fuA V2 = ⟨#[]⟩ := of_decide_eq_true hc51
            refine gL h (zm rfl (zq 52 rfl rfl (.move rfl) (zp (.pickT rfl rfl) (za rfl (zn ?_))))); clear h; intro a w h
            change Code.wp _ _ _ _ _
            refine cond_split h rfl (fun hc49 => ?_) (fun hc49 => ?_)
            · skip
              have hsg : ((la.getD (13 * (d - j) + j) FT0).x).num.sign < 0 := of_decide_eq_true hc49
              refine gC h (zr (zm rfl (zp (.binOp rfl rfl (fun _ => run_sadd _ _ _ _ _ (by have e1 : (ByteArray.mk #[45]).size = 1 := rfl; have e3 : (ByteArray.mk #[32, 45, 32]).size = 3 := rfl; have e4 : (ByteArray.mk #[32, 43, 32]).size = 3 := rfl; (try simp only [ByteArray.size_append, e1, e3, e4]); omega))) (za rfl (zn (zr (zm rfl (zm rfl (zp (.binOp rfl rfl (fun _ => run_sadd _ _ _ _ _ (by have e1 : (ByteArray.mk #[45]).size = 1 := rfl; have e3 : (ByteArray.mk #[32, 45, 32]).size = 3 := rfl; have e4 : (ByteArray.mk #[32, 43, 32]).size = 3 := rfl; (try simp only [ByteArray.size_append, e1, e3, e4]); omega))) (za rfl (zn (zr (zm rfl (zp (Pure1.cast (v' := (.int .i64 ((j + 1 : Nat) : Int))) (.add rfl rfl) (by show Value.int _ _ = Value.int _ _; congr 1)) (za rfl (zn ?_)))))))))))))))); clear h; intro a w h
              have hV0 : V2 = [] := (fuA_nil hold).1 hs51
              have hst : fuA V2 ++ ((⟨#[45]⟩) ++ (rT (⟨d - j, j, (la.getD (13 * (d - j) + j) FT0).x⟩ : Tm))) = fuA (V2 ++ [(⟨d - j, j, (la.getD (13 * (d - j) + j) FT0).x⟩ : Tm)]) := by
                have h9 := fuA_first (t := (⟨d - j, j, (la.getD (13 * (d - j) + j) FT0).x⟩ : Tm)) (by simp only; omega) (by simp only; omega) (((⟨#[45]⟩) ++ (rT (⟨d - j, j, (la.getD (13 * (d - j) + j) FT0).x⟩ : Tm)))) (by first | exact (if_pos hsg).symm | exact (if_neg hsg).symm)
                rw [hV0]; exact h9
              rw [hst] at h
              exact ⟨j + 1, ⟨by omega, V2 ++ [(⟨d - j, j, (la.getD (13 * (d - j) + j) FT0).x⟩ : Tm)], by have h9 := hvis.step (by omega) hnz; rw [← xs_get] at h9; exact h9, by exact ((h.drop sl).factsSub (by simp)).sub sA⟩, by omega⟩
            · skip
              have hsg : ¬ ((la.getD (13 * (d - j) + j) FT0).x).num.sign < 0 := of_decide_eq_false hc49
              refine gC h (zs (zr (zm rfl (zp (.binOp rfl rfl (fun _ => run_sneq _ _ _ _ _)) ?_)))); clear h; intro a w h
              refine by_bool h (fun hc59 h => (by exfalso; have h8 : ¬ fuA V2 = ⟨#[]⟩ := (by simpa using hc59); exact h8 hs51)) (fun hc59 h => ?_)
              refine gL h (zm rfl (zo 60 rfl rfl rfl (zp (.pickF rfl rfl) (za rfl (zn ?_))))); clear h; intro a w h
              change Code.wp _ _ _ _ _
              refine cond_false h rfl ?_
              refine gC h (zs (zr (zm rfl (zp (.binOp rfl rfl (fun _ => run_sneq _ _ _ _ _)) ?_)))); clear h; intro a w h
              refine by_bool h (fun hc67 h => (by exfalso; have h8 : ¬ fuA V2 = ⟨#[]⟩ := (by simpa using hc67); exact h8 hs51)) (fun hc67 h => ?_)
              refine gL h (za rfl (zn ?_)); clear h; intro a w h
              change Code.wp _ _ _ _ _
              refine cond_false h rfl ?_
              refine gC h (zk (zr (zm rfl (zm rfl (zp (.binOp rfl rfl (fun _ => run_sadd _ _ _ _ _ (by have e1 : (ByteArray.mk #[45]).size = 1 := rfl; have e3 : (ByteArray.mk #[32, 45, 32]).size = 3 := rfl; have e4 : (ByteArray.mk #[32, 43, 32]).size = 3 := rfl; (try simp only [ByteArray.size_append, e1, e3, e4]); omega))) (za rfl (zn (zr (zm rfl (zp (Pure1.cast (v' := (.int .i64 ((j + 1 : Nat) : Int))) (.add rfl rfl) (by show Value.int _ _ = Value.int _ _; congr 1)) (za rfl (zn ?_)))))))))))); clear h; intro a w h
              have hV0 : V2 = [] := (fuA_nil hold).1 hs51
              have hst : fuA V2 ++ (rT (⟨d - j, j, (la.getD (13 * (d - j) + j) FT0).x⟩ : Tm)) = fuA (V2 ++ [(⟨d - j, j, (la.getD (13 * (d - j) + j) FT0).x⟩ : Tm)]) := by
                have h9 := fuA_first (t := (⟨d - j, j, (la.getD (13 * (d - j) + j) FT0).x⟩ : Tm)) (by simp only; omega) (by simp only; omega) ((rT (⟨d - j, j, (la.getD (13 * (d - j) + j) FT0).x⟩ : Tm))) (by first | exact (if_pos hsg).symm | exact (if_neg hsg).symm)
                rw [hV0]; exact h9
              rw [hst] at h
              exact ⟨j + 1, ⟨by omega, V2 ++ [(⟨d - j, j, (la.getD (13 * (d - j) + j) FT0).x⟩ : Tm)], by have h9 := hvis.step (by omega) hnz; rw [← xs_get] at h9; exact h9, by exact ((h.drop sl).factsSub (by simp)).sub sA⟩, by omega⟩
          · skip
            have hs51 : ¬ fuA V2 = ⟨#[]⟩ := of_decide_eq_false hc51
            refine gL h (zm rfl (zo 52 rfl rfl rfl (zp (.pickF rfl rfl) (za rfl (zn ?_))))); clear h; intro a w h
            change Code.wp _ _ _ _ _
            refine cond_false h rfl ?_
            refine gC h (zs (zr (zm rfl (zp (.binOp rfl rfl (fun _ => run_sneq _ _ _ _ _)) ?_)))); clear h; intro a w h
            refine by_bool h (fun hc59 h => ?_) (fun hc59 h => (by exfalso; have h8 : fuA V2 = ⟨#[]⟩ := (by simpa using hc59); exact hs51 h8))
            refine gL h (zm rfl (zq 60 rfl rfl (.move rfl) (zp (.pickT rfl rfl) (za rfl (zn ?_))))); clear h; intro a w h
            change Code.wp _ _ _ _ _
            refine cond_split h rfl (fun hc57 => ?_) (fun hc57 => ?_)
            · skip
              have hsg : ((la.getD (13 * (d - j) + j) FT0).x).num.sign < 0 := of_decide_eq_true hc57
              refine gC h (zr (zm rfl (zp (.binOp rfl rfl (fun _ => run_sadd _ _ _ _ _ (by have e1 : (ByteArray.mk #[45]).size = 1 := rfl; have e3 : (ByteArray.mk #[32, 45, 32]).size = 3 := rfl; have e4 : (ByteArray.mk #[32, 43, 32]).size = 3 := rfl; (try simp only [ByteArray.size_append, e1, e3, e4]); omega))) (za rfl (zn (zr (zm rfl (zm rfl (zp (.binOp rfl rfl (fun _ => run_sadd _ _ _ _ _ (by have e1 : (ByteArray.mk #[45]).size = 1 := rfl; have e3 : (ByteArray.mk #[32, 45, 32]).size = 3 := rfl; have e4 : (ByteArray.mk #[32, 43, 32]).size = 3 := rfl; (try simp only [ByteArray.size_append, e1, e3, e4]); omega))) (za rfl (zn (zr (zm rfl (zp (Pure1.cast (v' := (.int .i64 ((j + 1 : Nat) : Int))) (.add rfl rfl) (by show Value.int _ _ = Value.int _ _; congr 1)) (za rfl (zn ?_)))))))))))))))); clear h; intro a w h
              have hV0 : V2 ≠ [] := fun e9 => hs51 ((fuA_nil hold).2 e9)
              have hst : fuA V2 ++ ((⟨#[32, 45, 32]⟩) ++ (rT (⟨d - j, j, (la.getD (13 * (d - j) + j) FT0).x⟩ : Tm))) = fuA (V2 ++ [(⟨d - j, j, (la.getD (13 * (d - j) + j) FT0).x⟩ : Tm)]) := fuA_more (t := (⟨d - j, j, (la.getD (13 * (d - j) + j) FT0).x⟩ : Tm)) (by simp only; omega) (by simp only; omega) hV0 (((⟨#[32, 45, 32]⟩) ++ (rT (⟨d - j, j, (la.getD (13 * (d - j) + j) FT0).x⟩ : Tm)))) (by first | exact (if_pos hsg).symm | exact (if_neg hsg).symm)
              rw [hst] at h
              exact ⟨j + 1, ⟨by omega, V2 ++ [(⟨d - j, j, (la.getD (13 * (d - j) + j) FT0).x⟩ : Tm)], by have h9 := hvis.step (by omega) hnz; rw [← xs_get] at h9; exact h9, by exact ((h.drop sl).factsSub (by simp)).sub sA⟩, by omega⟩
            · skip
              have hsg : ¬ ((la.getD (13 * (d - j) + j) FT0).x).num.sign < 0 := of_decide_eq_false hc57
              refine gC h (zs (zr (zm rfl (zp (.binOp rfl rfl (fun _ => run_sneq _ _ _ _ _)) ?_)))); clear h; intro a w h
              refine by_bool h (fun hc67 h => ?_) (fun hc67 h => (by exfalso; have h8 : fuA V2 = ⟨#[]⟩ := (by simpa using hc67); exact hs51 h8))
              refine gL h (za rfl (zn ?_)); clear h; intro a w h
              change Code.wp _ _ _ _ _
              refine cond_true h rfl ?_
              refine gC h (zr (zm rfl (zp (.binOp rfl rfl (fun _ => run_sadd _ _ _ _ _ (by have e1 : (ByteArray.mk #[45]).size = 1 := rfl; have e3 : (ByteArray.mk #[32, 45, 32]).size = 3 := rfl; have e4 : (ByteArray.mk #[32, 43, 32]).size = 3 := rfl; (try simp only [ByteArray.size_append, e1, e3, e4]); omega))) (za rfl (zn (zr (zm rfl (zm rfl (zp (.binOp rfl rfl (fun _ => run_sadd _ _ _ _ _ (by have e1 : (ByteArray.mk #[45]).size = 1 := rfl; have e3 : (ByteArray.mk #[32, 45, 32]).size = 3 := rfl; have e4 : (ByteArray.mk #[32, 43, 32]).size = 3 := rfl; (try simp only [ByteArray.size_append, e1, e3, e4]); omega))) (za rfl (zn (zr (zm rfl (zp (Pure1.cast (v' := (.int .i64 ((j + 1 : Nat) : Int))) (.add rfl rfl) (by show Value.int _ _ = Value.int _ _; congr 1)) (za rfl (zn ?_)))))))))))))))); clear h; intro a w h
              have hV0 : V2 ≠ [] := fun e9 => hs51 ((fuA_nil hold).2 e9)
              have hst : fuA V2 ++ ((⟨#[32, 43, 32]⟩) ++ (rT (⟨d - j, j, (la.getD (13 * (d - j) + j) FT0).x⟩ : Tm))) = fuA (V2 ++ [(⟨d - j, j, (la.getD (13 * (d - j) + j) FT0).x⟩ : Tm)]) := fuA_more (t := (⟨d - j, j, (la.getD (13 * (d - j) + j) FT0).x⟩ : Tm)) (by simp only; omega) (by simp only; omega) hV0 (((⟨#[32, 43, 32]⟩) ++ (rT (⟨d - j, j, (la.getD (13 * (d - j) + j) FT0).x⟩ : Tm)))) (by first | exact (if_pos hsg).symm | exact (if_neg hsg).symm)
              rw [hst] at h
              exact ⟨j + 1, ⟨by omega, V2 ++ [(⟨d - j, j, (la.getD (13 * (d - j) + j) FT0).x⟩ : Tm)], by have h9 := hvis.step (by omega) hnz; rw [← xs_get] at h9; exact h9, by exact ((h.drop sl).factsSub (by simp)).sub sA⟩, by omega⟩
    · skip
      have heq_j : (d + 1) = j := by have := of_decide_eq_false hc15; omega
      subst heq_j
      refine gC h (ze (zr (zm rfl (zp (Pure1.cast (v' := (.int .i64 ((d + 1 : Nat) : Int))) (.add rfl rfl) (by show Value.int _ _ = Value.int _ _; congr 1)) (za rfl (zn ?_)))))); clear h; intro a w h
      exact ⟨d + 1, ⟨by omega, V2, hvis.row, by exact h.sub sA⟩, by omega⟩
  · skip
    have heq_d : 13 = d := by have := of_decide_eq_false hc10; omega
    subst heq_d
    refine gC h (ze (zs (zs (zr (zm rfl (zp (.binOp rfl rfl (fun _ => run_seql _ _ _ _ _)) (zn ?_))))))); clear h; intro a w h
    change Code.wp _ _ _ _ _
    refine cond_split h rfl (fun hc74 => ?_) (fun hc74 => ?_)
    · skip
      have hs74 : fuA V = ⟨#[]⟩ := of_decide_eq_true hc74
      refine gC h (zs (zr (za rfl (zn (zt ?_))))); clear h; intro a w h
      refine retV h (results1 h rfl (.tmp rfl)) ?_
      rw [← hvis0.all ha, txtP_fuA, if_pos hs74]
    · skip
      have hs74 : ¬ fuA V = ⟨#[]⟩ := of_decide_eq_false hc74
      refine gC h (zk (zs (zr (zm rfl (za rfl (zn (zt ?_))))))); clear h; intro a w h
      refine retV h (results1 h rfl (.tmp rfl)) ?_
      rw [← hvis0.all ha, txtP_fuA, if_neg hs74]
end Go.Proofs.YtddhlkfpdjmplaaGreatDoor
