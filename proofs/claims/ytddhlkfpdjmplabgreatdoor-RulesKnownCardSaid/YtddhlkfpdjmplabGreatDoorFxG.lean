/- A shared row appended in a drawn region. By an AI agent. -/
import Derived.Test.YtddhlkfpdjmplabGreatDoorFxM
set_option linter.unusedVariables false
set_option linter.unusedSimpArgs false
set_option linter.unusedSectionVars false
namespace Go.Fx
open Go Go.RowKit
variable {P : Program} {n : Nat} {S : Nat → Prop} {w0 w : World} {L : List (Nat × Value)} {σ σ' : List (Nat × Obj)} {Φ : List Qn} {a : Act} {K : Act → World → Prop} {Q : Exit → Act → World → Prop}
theorem Head.conv {ops : Array Oper} {Kf : Act → World → Prop} : ∀ (H : List Nat) (L : List (Nat × Value)) (σ σ' : List (Nat × Obj)) (Φ Φ' : List Qn),
  (∀ L a w σx, St n S w0 L (σx ++ σ) Φ a w → St n S w0 L (σx ++ σ') Φ' a w) → Head P ops n S w0 Kf H L σ' Φ' → Head P ops n S w0 Kf H L σ Φ
 | [], L, σ, σ', Φ, Φ', hc, hH => fun a w h => hH a w (hc L a w [] h)
 | i :: H, L, σ, σ', Φ, Φ', hc, hH => by
  rcases hH with ⟨o, d, v, ld, ho, hd, hdn, hq, hy, hH⟩ | ⟨o, ho, hlo, hw⟩ | ⟨d, T, z, ty, pos, after, ho, hfo, hz, hdn, hH⟩ | ⟨o, d, v, b, ts, ho, hd, hdn, hq, hy, hH⟩ | ⟨hnf, hx⟩ | ⟨j, oi, oj, ho, hoj, hq, h1, h2⟩
  · exact .inl ⟨o, d, v, ld, ho, hd, hdn, hq, fun a w σx h => hy a w σx (hc _ a w σx h), Head.conv H _ σ σ' Φ Φ' hc hH⟩
  · exact .inr (.inl ⟨o, ho, hlo, fun a w σx h => hw a w σx (hc _ a w σx h)⟩)
  ·
   refine .inr (.inr (.inl ⟨d, T, z, ty, pos, after, ho, hfo, hz, hdn, fun b => Head.conv H _ ((b, .cells z.cells T (0, 0)) :: σ) ((b, .cells z.cells T (0, 0)) :: σ') Φ Φ' (fun L a w σx h => ?_) (hH b)⟩))
   have h1 := hc L a w (σx ++ [(b, .cells z.cells T (0, 0))]) (by simpa using h)
   simpa using h1
  · exact .inr (.inr (.inr (.inl ⟨o, d, v, b, ts, ho, hd, hdn, hq, fun a w σx h => hy a w σx (hc _ a w σx h), Head.conv H _ σ σ' Φ Φ' hc hH⟩)))
  · exact .inr (.inr (.inr (.inr (.inl ⟨hnf, fun a w h => hx a w (hc _ a w [] h)⟩))))
  · exact .inr (.inr (.inr (.inr (.inr ⟨j, oi, oj, ho, hoj, hq, fun a w σx h => h1 a w σx (hc _ a w σx h), fun a w σx h => h2 a w σx (hc _ a w σx h)⟩))))
theorem GrowO.cap {k : Nat} {E : TypeId} {ad : Option Addr} {m m' c : Nat} {xs : List Value} {o : List (Nat × Obj)} (h : GrowO k E (.slice ad m c) m' xs o) : m' ≤ c := by
 obtain ⟨_, ⟨h2, h3, _⟩ | ⟨b, c', R, h1, _, h3, _⟩⟩ := h
 · omega
 · cases h1; exact h3
section
variable {ops : Array Oper} {Kf : Act → World → Prop} {i f : Nat} {listed : Array Bool}
end
end Go.Fx
