/- Written by a program of ours (gen.py) out of short specifications. By an AI agent. -/
import Derived.Test.YtddhlkfpdjmplaaGreatDoorRefs
set_option linter.unusedVariables false
set_option linter.unusedSimpArgs false
set_option maxRecDepth 4000
namespace Go.Proofs.YtddhlkfpdjmplaaGreatDoor
open Go Go.Proofs Go.Fx
attribute [local irreducible] Oper.wp Code.wp wpList Fx.Head wpOp
def exB (n : Nat) : List UInt8 := if 10 ≤ n then [94, 49, UInt8.ofNat (48 + n - 10)] else if 1 < n then [94, UInt8.ofNat (48 + n)] else []
def lettB (s nm : ByteArray) (n : Nat) : ByteArray :=
  if n = 0 then s else
  if 10 ≤ n then (((if s = ⟨#[]⟩ then s else s ++ ⟨#[42]⟩) ++ nm) ++ ⟨#[94, 49]⟩) ++ ⟨#[UInt8.ofNat (48 + n - 10)]⟩
  else if 1 < n then (((if s = ⟨#[]⟩ then s else s ++ ⟨#[42]⟩) ++ nm) ++ ⟨#[94]⟩) ++ ⟨#[UInt8.ofNat (48 + n)]⟩
  else (if s = ⟨#[]⟩ then s else s ++ ⟨#[42]⟩) ++ nm
def fctB (nm : List UInt8) (n : Nat) : List UInt8 := if n = 0 then [] else nm ++ exB n
def rT (t : Tm) : ByteArray := lettB (lettB (if txtQ (ab t.c) = ⟨#[49]⟩ ∧ t.i + t.j > 0 then ⟨#[]⟩ else txtQ (ab t.c)) ⟨#[120]⟩ t.i) ⟨#[121]⟩ t.j
structure Vis (X : List Rat) (d j : Nat) (V : List Tm) : Prop where
  nrm : Nrm V
  old : ∀ t ∈ V, t.i + t.j < d ∨ (t.i + t.j = d ∧ t.j < j)
  cf : ∀ a b, a + b < d ∨ (a + b = d ∧ b < j) → lin (at0 a b) V = X.getD (13 * a + b) 0
theorem Vis.zero (X : List Rat) : Vis X 0 0 [] := ⟨⟨(fun _ h => nomatch h), List.Pairwise.nil⟩, (fun _ h => nomatch h), fun a b h => by omega⟩
theorem Vis.row {X : List Rat} {d : Nat} {V : List Tm} (h : Vis X d (d + 1) V) : Vis X (d + 1) 0 V :=
  ⟨h.nrm, fun t ht => by have := h.old t ht; omega, fun a b hab => h.cf a b (by omega)⟩
theorem Vis.no {X : List Rat} {d j : Nat} {V : List Tm} (h : Vis X d j V) (hj : j ≤ d) : lin (at0 (d - j) j) V = 0 :=
  lin_at0_none (fun t ht e => by have := h.old t ht; omega)
theorem Vis.skip {X : List Rat} {d j : Nat} {V : List Tm} (h : Vis X d j V) (hj : j ≤ d) (hz : X.getD (13 * (d - j) + j) 0 = 0) : Vis X d (j + 1) V :=
  ⟨h.nrm, fun t ht => by have := h.old t ht; omega, fun a b hab => by
    by_cases e : a + b = d ∧ b = j
    · obtain ⟨e1, e2⟩ := e
      rw [show a = d - j by omega, e2, h.no hj, hz]
    · exact h.cf a b (by omega)⟩
theorem Vis.step {X : List Rat} {d j : Nat} {V : List Tm} (h : Vis X d j V) (hj : j ≤ d) (hz : X.getD (13 * (d - j) + j) 0 ≠ 0) : Vis X d (j + 1) (V ++ [⟨d - j, j, X.getD (13 * (d - j) + j) 0⟩]) := by
  refine ⟨⟨fun t ht => ?_, ?_⟩, fun t ht => ?_, fun a b hab => ?_⟩
  · rcases List.mem_append.1 ht with ht | ht
    · exact h.nrm.1 t ht
    · rw [List.mem_singleton.1 ht]; exact hz
  · rw [List.pairwise_append]
    refine ⟨h.nrm.2, List.pairwise_singleton _ _, fun s hs t ht => ?_⟩
    rw [List.mem_singleton.1 ht, ltT_iff]
    have := h.old s hs
    simp only; omega
  · rcases List.mem_append.1 ht with ht | ht
    · have := h.old t ht; omega
    · rw [List.mem_singleton.1 ht]; simp only; omega
  · rw [lin_append]
    simp only [lin, at0]
    by_cases e : a + b = d ∧ b = j
    · obtain ⟨e1, e2⟩ := e
      subst e2
      rw [show a = d - b by omega, h.no hj, if_pos ⟨rfl, rfl⟩]; grind
    · rw [if_neg (by omega), h.cf a b (by omega)]; grind
theorem Vis.all {X : List Rat} {K : Nat} {V : List Tm} (h : Vis X 13 0 V) (hX : Tb 12 K X) : V = norm (pol X) := by
  refine nrm_ext h.nrm (norm_nrm _) (fun φ => ?_)
  have key : ∀ a b, lin (at0 a b) (V ++ scaleL (-1) (norm (pol X))) = 0 := fun a b => by
    rw [lin_append, lin_scaleL, lin_norm]
    by_cases hb : b < 13
    · rw [pol_at hb]
      by_cases hd : a + b < 13
      · rw [h.cf a b (by omega)]; grind
      · have h1 : X.getD (13 * a + b) 0 = 0 := by
          by_cases hk : 13 * a + b < 169
          · by_cases h2 : X.getD (13 * a + b) 0 = 0
            · exact h2
            · have := hX.deg _ hk h2; omega
          · rw [List.getD_eq_getElem?_getD, List.getElem?_eq_none (by rw [hX.len]; omega)]; rfl
        rw [h1, lin_at0_none (fun t ht e => by have := h.old t ht; omega)]; grind
    · rw [lin_at0_none (l := V) (fun t ht e => by have := h.old t ht; omega), lin_at0_none (l := pol X) (fun t ht e => by
        obtain ⟨k, _, rfl⟩ := pol_mem ht; have := Nat.mod_lt k (show 0 < 13 by decide); simp only at e; omega)]; grind
  have h2 := eqv_zero key φ
  rw [lin_append, lin_scaleL] at h2
  grind
def fuA (V : List Tm) : ByteArray := ⟨(fuB V).toArray⟩
def dgX (X : List Rat) : Nat → Int
  | 0 => -1
  | k + 1 => if X.getD k 0 = 0 then dgX X k else max (dgX X k) ((k / 13 + k % 13 : Nat) : Int)
end Go.Proofs.YtddhlkfpdjmplaaGreatDoor
