/- Walks of functions. By an AI agent. -/
import Derived.Test.YtddhlkfpdjmplaaGreatDoorJoin1
import Derived.Test.YtddhlkfpdjmplaaGreatDoorFxG
set_option linter.unusedVariables false
set_option linter.unusedSimpArgs false
set_option maxRecDepth 4000
namespace Go.Proofs.YtddhlkfpdjmplaaGreatDoor
open Go Go.Proofs Go.Fx Tryz
attribute [local irreducible] Oper.wp Code.wp wpList Fx.Head wpOp
section
theorem Zko (x0 : ByteArray) (w : World) : (Instr.buildSlice 132 1 [(0, .string x0)].toArray).run Tryz.prog w = .ok (.slice (some ⟨w.heap.size, 0, none⟩) 1 1) (w.alloc (.cells #[.string x0] 9 (0, 0))) := by
 simp [go_sem]
def letL (s : ByteArray) (n : Nat) : List ByteArray := if n = 0 then [] else if n = 1 then [s] else [(s ++ ⟨#[94]⟩) ++ Zmi n]
def hdB (tx : Rat → ByteArray) (t : Tm) : List ByteArray := if (!decide (ab t.c = ((1 : Int) : Rat)) || decide (t.i + t.j = 0)) = true then [tx (ab t.c)] else []
def preP (out : ByteArray) : Bool → Bool → ByteArray
 | true, true => ⟨#[45]⟩
 | true, false => out
 | false, true => out ++ ⟨#[32, 45, 32]⟩
 | false, false => out ++ ⟨#[32, 43, 32]⟩
def tmTx (tx : Rat → ByteArray) (t : Tm) : ByteArray := Zpu ((hdB tx t ++ letL ⟨#[120]⟩ t.i) ++ letL ⟨#[121]⟩ t.j) ⟨#[42]⟩
def txP (tx : Rat → ByteArray) (p : List Tm) : Nat → ByteArray
 | 0 => ⟨#[]⟩
 | k + 1 => preP (txP tx p k) (decide (k = 0)) (decide ((p.getD k T0).c.num.sign < 0)) ++ tmTx tx (p.getD k T0)
def txtP (tx : Rat → ByteArray) (p : List Tm) : ByteArray := if txP tx p p.length = ⟨#[]⟩ then ⟨#[48]⟩ else txP tx p p.length
end
section
def OkE (E : List Tm) : Prop := Nrm E ∧ E.length ≤ 20 ∧ ∀ t ∈ E, t.i + t.j ≤ 12 ∧ t.c.num.natAbs < 100 ∧ t.c.den < 100
instance (E : List Tm) : Decidable (OkE E) := by unfold OkE Nrm; infer_instance
theorem Qak {x : Rat} (h1 : x.num.natAbs < 100) (h2 : x.den < 100) : Qa x ≤ 4 := by
 have a := Vs (n := x.num.natAbs) oo
 have b := Vs (n := x.den) oo
 unfold Qa Zbd; omega
theorem OkE.pq {E : List Tm} (h : OkE E) : Pq 12 101 E := (Pq.raw (fun t ht => (h.2.2 t ht).1) (k := 4) (fun t ht => Qak (h.2.2 t ht).2.1 (h.2.2 t ht).2.2) h.2.1 dd).mono (Nat.le_refl _) dd
def hf : Rat := ((-1 : Int) : Rat) / ((2 : Int) : Rat)
attribute [local irreducible] hf
def xL : List Tm := [(⟨1, 0, ((1 : Int) : Rat)⟩ : Tm)]
def yL : List Tm := [(⟨0, 1, ((1 : Int) : Rat)⟩ : Tm)]
def rA : List Tm := [(⟨0, 0, hf⟩ : Tm), (⟨1, 0, ((1 : Int) : Rat)⟩ : Tm), (⟨1, 2, ((-3 : Int) : Rat)⟩ : Tm)]
def rB : List Tm := [(⟨2, 0, ((1 : Int) : Rat)⟩ : Tm), (⟨1, 1, ((2 : Int) : Rat)⟩ : Tm), (⟨2, 0, ((-1 : Int) : Rat)⟩ : Tm)]
def r7 : List Tm := [(⟨7, 0, ((1 : Int) : Rat)⟩ : Tm)]
def r6 : List Tm := [(⟨0, 6, ((1 : Int) : Rat)⟩ : Tm)]
def rH : List Tm := [(⟨1, 1, ((1 : Int) : Rat)⟩ : Tm)]
def rG : List Tm := [(⟨2, 1, ((1 : Int) : Rat)⟩ : Tm)]
def rL : List Tm := [(⟨3, 0, ((1 : Int) : Rat)⟩ : Tm), (⟨0, 2, ((1 : Int) : Rat)⟩ : Tm)]
def rK : List Tm := [(⟨0, 0, ((5 : Int) : Rat)⟩ : Tm), (⟨1, 0, ((1 : Int) : Rat)⟩ : Tm)]
def rM : List Tm := [(⟨2, 0, ((1 : Int) : Rat)⟩ : Tm), (⟨0, 1, ((1 : Int) : Rat)⟩ : Tm)]
def eA : List Tm := [(⟨0, 0, hf⟩ : Tm), (⟨1, 0, ((1 : Int) : Rat)⟩ : Tm), (⟨1, 2, ((-3 : Int) : Rat)⟩ : Tm)]
def eB : List Tm := [(⟨1, 1, ((2 : Int) : Rat)⟩ : Tm)]
def e7 : List Tm := [(⟨7, 0, ((1 : Int) : Rat)⟩ : Tm)]
def e6 : List Tm := [(⟨0, 6, ((1 : Int) : Rat)⟩ : Tm)]
theorem e6_ok : OkE e6 := by unfold e6; decide +kernel
def eH0 : List Tm := [(⟨1, 1, ((1 : Int) : Rat)⟩ : Tm)]
def eG : List Tm := [(⟨2, 1, ((1 : Int) : Rat)⟩ : Tm)]
def eL0 : List Tm := [(⟨0, 2, ((1 : Int) : Rat)⟩ : Tm), (⟨3, 0, ((1 : Int) : Rat)⟩ : Tm)]
def eK : List Tm := [(⟨0, 0, ((5 : Int) : Rat)⟩ : Tm), (⟨1, 0, ((1 : Int) : Rat)⟩ : Tm)]
def eM : List Tm := [(⟨0, 1, ((1 : Int) : Rat)⟩ : Tm), (⟨2, 0, ((1 : Int) : Rat)⟩ : Tm)]
def eS : List Tm := [(⟨1, 0, ((1 : Int) : Rat)⟩ : Tm), (⟨0, 1, ((1 : Int) : Rat)⟩ : Tm)]
def eD : List Tm := [(⟨1, 0, ((1 : Int) : Rat)⟩ : Tm), (⟨0, 1, ((-1 : Int) : Rat)⟩ : Tm)]
def eC : List Tm := [(⟨2, 0, ((1 : Int) : Rat)⟩ : Tm), (⟨0, 2, ((-1 : Int) : Rat)⟩ : Tm)]
def e1 : List Tm := [(⟨0, 0, ((1 : Int) : Rat)⟩ : Tm)]
theorem e1_ok : OkE e1 := by unfold e1; decide +kernel
def eP : List Tm := [(⟨0, 0, ((1 : Int) : Rat)⟩ : Tm), (⟨1, 0, ((1 : Int) : Rat)⟩ : Tm)]
def eQ : List Tm := [(⟨0, 0, ((1 : Int) : Rat)⟩ : Tm), (⟨1, 0, ((3 : Int) : Rat)⟩ : Tm), (⟨2, 0, ((3 : Int) : Rat)⟩ : Tm), (⟨3, 0, ((1 : Int) : Rat)⟩ : Tm)]
def eH : List Tm := [(⟨0, 1, ((2 : Int) : Rat)⟩ : Tm), (⟨1, 1, ((1 : Int) : Rat)⟩ : Tm)]
def eL : List Tm := [(⟨0, 0, ((2 : Int) : Rat)⟩ : Tm), (⟨1, 0, ((6 : Int) : Rat)⟩ : Tm)]
theorem i0 : ((0 : Int) : Rat) = 0 := rfl
theorem i2 : ((2 : Int) : Rat) = 2 := rfl
theorem i3 : ((3 : Int) : Rat) = 3 := rfl
theorem i5 : ((5 : Int) : Rat) = 5 := rfl
theorem n6 : norm r6 = e6 := Zis e6_ok.1
theorem n1 : norm [(⟨0, 0, ((1 : Int) : Rat)⟩ : Tm)] = e1 := Zis e1_ok.1
end
section
end
end Go.Proofs.YtddhlkfpdjmplaaGreatDoor
