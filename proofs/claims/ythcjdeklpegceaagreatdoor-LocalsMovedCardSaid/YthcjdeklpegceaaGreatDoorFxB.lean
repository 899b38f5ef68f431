/- More calls of function values, and small helps. By an AI agent. -/
import Derived.Test.YthcjdeklpegceaaGreatDoorFxA
set_option linter.unusedVariables false
set_option linter.unusedSimpArgs false
set_option linter.unusedSectionVars false
namespace Go.Fx
open Go Go.RowKit
variable {P : Program} {n : Nat} {S : Nat → Prop} {w0 : World} {L : List (Nat × Value)} {σ : List (Nat × Obj)} {Φ : List Qf} {a : Act} {w : World} {K : Act → World → Prop} {Q : Exit → Act → World → Prop}
theorem Zu1 (h : St n S w0 L σ Φ a w) (hS : ∀ k, S k → k < w0.heap.size) {d : Option Nat} {x : Operand} {f : FuncId} {fs cs : List Value} {args : Array Operand} {tys : Array TypeId} {ty : TypeId} {pos : String} {aft : Array Edge} {g : Option (Nat × Bool)}
  {vs : List Value} {σ1 : List (Nat × Obj)} {Φ' : List Qf} {post : Value → List (Nat × Obj) → List Qf → Prop} (hx : Fx.ev L x = some (.func (.func f) fs.toArray cs.toArray)) (ha : args.toList.map (Fx.ev L) = vs.map some)
  (hc : ∀ args w, (callFunc f args).run P w = .ok (.enter f args) w) (hf : Znq P f (fs ++ vs ++ cs) σ1 Φ' post) (hσ : σ.Perm σ1) (hsub : ∀ R ∈ Φ', R ∈ Φ) (hd : ∀ d', d = some d' → d' < n)
  (k : ∀ v σ' Ψ a' w', post v σ' Ψ → St n S w0 ((match d with | some d' => [(d', v)] | none => []) ++ L) σ' Ψ a' w' → K a' w') : (Oper.mk d (.call ⟨.value x, args, tys⟩) ty pos aft g).wp P a w K Q := by
 simp only [Oper.wp, Zh9 h hx ha hc, Oper.upon]
 have h' : St n S w0 L σ1 Φ' a w := (h.perm hσ.symm).factsSub hsub
 refine (hf S w0 w hS h'.mem).mono ?_
 rintro e w' ⟨v, σ', Ψ, rfl, hp, hm⟩
 have h2 : St n S w0 L σ' Ψ a w' := ⟨h.size, h.defers, h.val, hm.ext, hm.own, hm.new, hm.nd, hm.facts⟩
 cases d with
 | none => exact k v σ' Ψ _ _ hp h2
 | some d => exact k v σ' Ψ _ _ hp (h2.put (hd d rfl) v)
theorem St.same (h : St n S w0 L σ Φ a w) {L' : List (Nat × Value)} {σ' : List (Nat × Obj)} {Φ' : List Qf} (h1 : L = L') (h2 : σ = σ') (h3 : Φ = Φ') : St n S w0 L' σ' Φ' a w := by
 subst h1; subst h2; subst h3; exact h
section
variable {α : Type} {enc : α → Value} {k : Nat}
theorem Km (hk : ∀ x, (enc x).cells.size = k) (l : List α) (j : Nat) (h : j < l.length) : 0 + j * k + k ≤ (cellsOf enc l).toArray.size := by
 rw [List.size_toArray, cellsOf_length hk]
 have := Nat.mul_le_mul_right k (show j + 1 ≤ l.length from h)
 rw [Nat.add_mul] at this; omega
theorem cells_lt (hk0 : 0 < k) (hk : ∀ x, (enc x).cells.size = k) (l : List α) (j : Nat) (h : j < l.length) : j * k < (cellsOf enc l).length := by
 rw [cellsOf_length hk]
 have := Nat.mul_le_mul_right k (show j + 1 ≤ l.length from h)
 rw [Nat.add_mul] at this; omega
theorem Yh (hk : ∀ x, (enc x).cells.size = k) (l : List α) (j : Nat) (h : j < l.length) (y : α) : Qc (cellsOf enc l).toArray (0 + j * k) (enc y).cells.toList = (cellsOf enc (l.set j y)).toArray := by
 rw [Nat.zero_add]; exact Zub hk l j h y
end
end Go.Fx
