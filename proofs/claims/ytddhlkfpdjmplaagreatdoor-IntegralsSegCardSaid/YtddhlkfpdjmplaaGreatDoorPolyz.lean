/- Written by a program of ours (gen.py) out of short specifications. By an AI agent. -/
import Derived.Test.YtddhlkfpdjmplaaGreatDoorSameg
set_option linter.unusedVariables false
set_option linter.unusedSimpArgs false
set_option maxRecDepth 4000
namespace Go.Proofs.YtddhlkfpdjmplaaGreatDoor
open Go Go.Proofs Go.Fx
attribute [local irreducible] Oper.wp Code.wp wpList Fx.Head wpOp
def tmZ (t : Tz) : Tm := ⟨t.i.toNat, t.j.toNat, t.c⟩
def toZ (t : Tm) : Tz := ⟨(t.i : Int), (t.j : Int), t.c⟩
theorem Tz.ext' {s t : Tz} (h1 : s.i = t.i) (h2 : s.j = t.j) (h3 : s.c = t.c) : s = t := by cases s; cases t; simp_all
instance : DecidableEq Tz := fun s t => decidable_of_iff (s.i = t.i ∧ s.j = t.j ∧ s.c = t.c) ⟨fun ⟨a, b, c⟩ => Tz.ext' a b c, fun h => h ▸ ⟨rfl, rfl, rfl⟩⟩
def npZ (Z : List Tz) : List Tm := if firstZ Z = 0 then norm (Z.map tmZ) else []
def okK (Z : List Tz) (k : Nat) : Bool := decide (mayZ (Z.getD k Tz0) = 0) && !decide ((Z.getD k Tz0).c = 0) && (decide (k = 0) || decide (ordT (tmZ (Z.getD (k - 1) Tz0)) (tmZ (Z.getD k Tz0)) < 0))
def okB (Z : List Tz) : Bool := decide (∀ k, k < Z.length → okK Z k = true)
end Go.Proofs.YtddhlkfpdjmplaaGreatDoor
