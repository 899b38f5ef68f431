/- Functions that return or panic: contracts, the steps of a panic. By an AI agent. -/
import Derived.Test.YthcjdeklpegceaaGreatDoorFxM
set_option linter.unusedVariables false
set_option linter.unusedSimpArgs false
set_option linter.unusedSectionVars false
namespace Go.Fx
open Go Go.RowKit
abbrev optL (d : Option Nat) (v : Value) : List (Nat × Value) := match d with | some d' => [(d', v)] | none => []
abbrev chE (v : Value) : List PanicEntry := [{ v := v, recovered := false }]
theorem Mem.drop {S : Nat → Prop} {w0 w : World} {σ σ' : List (Nat × Obj)} {Φ : List Qf} (h : Mem S w0 σ Φ w) (hs : List.Sublist σ' σ) : Mem S w0 σ' Φ w := by
 obtain ⟨X, h1, h2, h3, h4⟩ := h.facts
 exact ⟨h.ext, fun p hp => h.own p (hs.subset hp), fun p hp => h.new p (hs.subset hp), h.nd.sublist hs, X, h1, fun p hp => h2 p (hs.subset hp), h3, h4⟩
theorem Mem.factsSub {S : Nat → Prop} {w0 w : World} {σ : List (Nat × Obj)} {Φ Φ' : List Qf} (h : Mem S w0 σ Φ w) (hs : ∀ R ∈ Φ', R ∈ Φ) : Mem S w0 σ Φ' w := by
 obtain ⟨X, h1, h2, h3, h4⟩ := h.facts
 exact ⟨h.ext, h.own, h.new, h.nd, X, h1, h2, h3, fun R hR => h4 R (hs R hR)⟩
def CtrE (P : Program) (f : FuncId) (args : List Value) (σ : List (Nat × Obj)) (Φ : List Qf) (post : Value → List (Nat × Obj) → List Qf → Prop) (xpost : Value → List (Nat × Obj) → Prop) : Prop :=
 ∀ (S : Nat → Prop) (w0 w : World), (∀ k, S k → k < w0.heap.size) → Mem S w0 σ Φ w →
  Calls P f args.toArray w fun e w' => (∃ v σ' Ψ, e = .returned v ∧ post v σ' Ψ ∧ Mem S w0 σ' Ψ w') ∨ ∃ v σ', e = .panicked (chE v) ∧ xpost v σ' ∧ Mem S w0 σ' Φ w'
def PostE (S : Nat → Prop) (w0 : World) (Φ : List Qf) (post : Value → List (Nat × Obj) → List Qf → Prop) (xpost : Value → List (Nat × Obj) → Prop) : Ending → World → Prop :=
 fun e w' => (∃ v σ' Ψ, e = .returned v ∧ post v σ' Ψ ∧ Mem S w0 σ' Ψ w') ∨ ∃ v σ', e = .panicked (chE v) ∧ xpost v σ' ∧ Mem S w0 σ' Φ w'
section
variable {P : Program} {n : Nat} {S : Nat → Prop} {w0 : World} {L : List (Nat × Value)} {σ : List (Nat × Obj)} {Φ Φ0 : List Qf} {a : Act} {w : World} {K : Act → World → Prop} {Q : Exit → Act → World → Prop}
 {post : Value → List (Nat × Obj) → List Qf → Prop} {xpost : Value → List (Nat × Obj) → Prop}
end
section
variable {P : Program} {ops : Array Oper} {Q Q' : Exit → Act → World → Prop}
theorem Zhz (hq : ∀ e a w, Q e a w → Q' e a w) : ∀ {fuel : Nat} {listed : Array Bool} {a : Act} {w : World}, wpAny P .any ops Q fuel listed a w → wpAny P .any ops Q' fuel listed a w
 | 0, _, _, _, h => ⟨h.1, hq _ _ _ h.2⟩
 | _ + 1, _, _, _, h => ⟨fun h0 => hq _ _ _ (h.1 h0), fun i hi => Zf3 hq (wpOp_mono (fun _ _ h' => Zhz hq h') (h.2 i hi))⟩
end
section
variable {P : Program} {n : Nat} {S : Nat → Prop} {w0 : World} {L : List (Nat × Value)} {σ : List (Nat × Obj)} {Φ Φ0 : List Qf} {a : Act} {w : World} {K : Act → World → Prop} {Q : Exit → Act → World → Prop}
 {post : Value → List (Nat × Obj) → List Qf → Prop} {xpost : Value → List (Nat × Obj) → Prop} {ops : Array Oper} {i f : Nat} {listed : Array Bool}
theorem a_head (H : List Nat) (h : St n S w0 L σ Φ a w)
  (hchk : (Region.noSelect ops && Znb ops && onOK ops && decide (H.Nodup) && H.all (fun i => decide (i < ops.size))) = true)
  (hfl : Zah P ops n H L) (hH : Head P ops n S w0 Q H L σ Φ) : wpAny P .any ops Q H.length (Zaz ops H) a w := by
 simp only [Bool.and_eq_true, decide_eq_true_eq, List.all_eq_true] at hchk
 obtain ⟨⟨⟨⟨h1, h2⟩, h3⟩, h4⟩, h5⟩ := hchk
 refine Zhz ?_ (Zdn _ _ _ _ (Zkk h1 h2 h3 (H.length + H.length) H.length H L σ Φ [] _ a w (Nat.le_refl _) hH (by simpa using h) (by simp) (by simp) (by simp) h4 h5 hfl (by simp [Zaz]) (fun i hi => ?_) (by simp)))
 ·
  intro e a w hq
  cases e with
  | normal => exact hq
  | panic ch => exact hq a.tmps
  | _ => exact hq.elim
 · simp [Zaz, hi]
end
end Go.Fx
