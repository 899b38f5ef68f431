/- Written by a program of ours (gen.py) out of short specifications. By an AI agent. -/
import Derived.Test.YtddhlkfpdjmplaaGreatDoorJoin1
import Derived.Test.YtddhlkfpdjmplaaGreatDoorFxG
set_option linter.unusedVariables false
set_option linter.unusedSimpArgs false
set_option maxRecDepth 4000
namespace Go.Proofs.YtddhlkfpdjmplaaGreatDoor
open Go Go.Proofs Go.Fx
attribute [local irreducible] Oper.wp Code.wp wpList Fx.Head wpOp
theorem bs_132_1_0 (x0 : ByteArray) (w : World) : (Instr.buildSlice 132 1 [(0, .string x0)].toArray).run Tryz.prog w = .ok (.slice (some ⟨w.heap.size, 0, none⟩) 1 1) (w.alloc (.cells #[.string x0] 9 (0, 0))) := by
  simp [go_sem]
def letL (s : ByteArray) (n : Nat) : List ByteArray := if n = 0 then [] else if n = 1 then [s] else [(s ++ ⟨#[94]⟩) ++ digS n]
def hdB (tx : Rat → ByteArray) (t : Tm) : List ByteArray := if (!decide (ab t.c = ((1 : Int) : Rat)) || decide (t.i + t.j = 0)) = true then [tx (ab t.c)] else []
def preP (out : ByteArray) : Bool → Bool → ByteArray
  | true, true => ⟨#[45]⟩
  | true, false => out
  | false, true => out ++ ⟨#[32, 45, 32]⟩
  | false, false => out ++ ⟨#[32, 43, 32]⟩
def tmTx (tx : Rat → ByteArray) (t : Tm) : ByteArray := joinB ((hdB tx t ++ letL ⟨#[120]⟩ t.i) ++ letL ⟨#[121]⟩ t.j) ⟨#[42]⟩
def txP (tx : Rat → ByteArray) (p : List Tm) : Nat → ByteArray
  | 0 => ⟨#[]⟩
  | k + 1 => preP (txP tx p k) (decide (k = 0)) (decide ((p.getD k T0).c.num.sign < 0)) ++ tmTx tx (p.getD k T0)
def txtP (tx : Rat → ByteArray) (p : List Tm) : ByteArray := if txP tx p p.length = ⟨#[]⟩ then ⟨#[48]⟩ else txP tx p p.length
end Go.Proofs.YtddhlkfpdjmplaaGreatDoor
