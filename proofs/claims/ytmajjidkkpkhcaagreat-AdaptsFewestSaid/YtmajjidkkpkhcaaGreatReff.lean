/- Written by a program of ours (gen.py) out of short specifications. By an AI agent. -/
import Derived.Test.YtmajjidkkpkhcaaGreatRef3
import Derived.Test.YtmajjidkkpkhcaaGreatFxZ
set_option linter.unusedVariables false
set_option linter.unusedSimpArgs false
set_option maxRecDepth 4000
namespace Go.Proofs.YtmajjidkkpkhcaaGreat
open Go Go.Proofs Go.Fx
attribute [local irreducible] Oper.wp Code.wp wpList Fx.Head wpOp

theorem zeroF (w : World) : (zeroValue 33).run Tryz.prog w = .ok (fV 0 none 0 none 0) w := by
  have e : fV 0 none 0 none 0 = .agg #[.bool false, .slice none 0 0, .slice none 0 0] := by
    unfold fV; rw [show (0 : Rat).num = 0 from rfl, show (0 : Rat).den - 1 = 0 from rfl, show (0 : Int).natAbs = 0 from rfl, dg_zero]; rfl
  rw [e]; exact Tryz.zeroValue33 w
/-- A fraction of the reference, with its two lists of digits. -/
structure FT where
  x : Rat
  a1 : Option Addr
  c1 : Nat
  a2 : Option Addr
  c2 : Nat
  h1 : (dg x.num.natAbs).length ≤ c1
  h2 : (dg (x.den - 1)).length ≤ c2
abbrev encF (e : FT) : Value := .agg #[.bool (decide (e.x.num < 0)), .slice e.a1 (dg e.x.num.natAbs).length e.c1, .slice e.a2 (dg (e.x.den - 1)).length e.c2]
def FT0 : FT := ⟨0, none, 0, none, 0, by rw [show (0 : Rat).num.natAbs = 0 from rfl, dg_zero]; exact Nat.le_refl _, by rw [show (0 : Rat).den - 1 = 0 from rfl, dg_zero]; exact Nat.le_refl _⟩
/-- All fractions of a list have their digits. -/
def AllF (l : List FT) : SPred where
  p X w := ∀ e ∈ l, (Row e.a1 (List.map encn (dg e.x.num.natAbs))).p X w ∧ (Row e.a2 (List.map encn (dg (e.x.den - 1)))).p X w
  st X X' w w' h hk hs hX e he := ⟨(Row e.a1 _).st X X' w w' (h e he).1 hk hs hX, (Row e.a2 _).st X X' w w' (h e he).2 hk hs hX⟩
theorem AllF.get1 {l : List FT} {e : FT} {X : Nat → Prop} {w : World} (h : (AllF l).p X w) (he : e ∈ l) : (Row e.a1 (List.map encn (dg e.x.num.natAbs))).p X w := (h e he).1
theorem AllF.get2 {l : List FT} {e : FT} {X : Nat → Prop} {w : World} (h : (AllF l).p X w) (he : e ∈ l) : (Row e.a2 (List.map encn (dg (e.x.den - 1)))).p X w := (h e he).2
theorem AllF.nil (X : Nat → Prop) (w : World) : (AllF []).p X w := fun e he => by cases he
theorem AllF.snoc {l : List FT} {e : FT} {X : Nat → Prop} {w : World} (h : (AllF l).p X w) (h1 : (Row e.a1 (List.map encn (dg e.x.num.natAbs))).p X w) (h2 : (Row e.a2 (List.map encn (dg (e.x.den - 1)))).p X w) : (AllF (l ++ [e])).p X w := by
  intro f hf
  rcases List.mem_append.1 hf with hf | hf
  · exact h f hf
  · rw [List.mem_singleton] at hf; subst hf; exact ⟨h1, h2⟩
end Go.Proofs.YtmajjidkkpkhcaaGreat
