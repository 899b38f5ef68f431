/- A shared row appended in a drawn region. By an AI agent. -/
import Derived.Test.YtddhlkfpdjmplaaGreatDoorFxM
set_option linter.unusedVariables false
set_option linter.unusedSimpArgs false
set_option linter.unusedSectionVars false
namespace Go.Fx
open Go Go.RowKit
variable {P : Program} {n : Nat} {S : Nat → Prop} {w0 w : World} {L : List (Nat × Value)} {σ σ' : List (Nat × Obj)} {Φ : List Qh} {a : Act} {K : Act → World → Prop} {Q : Exit → Act → World → Prop}
theorem Head.conv {ops : Array Oper} {Kf : Act → World → Prop} : ∀ (H : List Nat) (L : List (Nat × Value)) (σ σ' : List (Nat × Obj)) (Φ Φ' : List Qh),
  (∀ L a w σx, St n S w0 L (σx ++ σ) Φ a w → St n S w0 L (σx ++ σ') Φ' a w) → Head P ops n S w0 Kf H L σ' Φ' → Head P ops n S w0 Kf H L σ Φ
 | [], L, σ, σ', Φ, Φ', hc, hH => fun a w h => hH a w (hc L a w [] h)
 | i :: H, L, σ, σ', Φ, Φ', hc, hH => by
  rcases hH with ⟨o, d, v, ld, ho, hd, hdn, hq, hy, hH⟩ | ⟨o, ho, hlo, hw⟩ | ⟨d, T, z, ty, pos, after, ho, hfo, hz, hdn, hH⟩ | ⟨o, d, v, b, ts, ho, hd, hdn, hq, hy, hH⟩ | ⟨hnf, hx⟩ | ⟨j, oi, oj, ho, hoj, hq, h1, h2⟩
  · exact .inl ⟨o, d, v, ld, ho, hd, hdn, hq, fun a w σx h => hy a w σx (hc _ a w σx h), Head.conv H _ σ σ' Φ Φ' hc hH⟩
  · exact .inr (.inl ⟨o, ho, hlo, fun a w σx h => hw a w σx (hc _ a w σx h)⟩)
  ·
   refine .inr (.inr (.inl ⟨d, T, z, ty, pos, after, ho, hfo, hz, hdn, fun b => Head.conv H _ ((b, .cells z.cells T (0, 0)) :: σ) ((b, .cells z.cells T (0, 0)) :: σ') Φ Φ' (fun L a w σx h => ?_) (hH b)⟩))
   have h1 := hc L a w (σx ++ [(b, .cells z.cells T (0, 0))]) (by simpa using h)
   simpa using h1
  · exact .inr (.inr (.inr (.inl ⟨o, d, v, b, ts, ho, hd, hdn, hq, fun a w σx h => hy a w σx (hc _ a w σx h), Head.conv H _ σ σ' Φ Φ' hc hH⟩)))
  · exact .inr (.inr (.inr (.inr (.inl ⟨hnf, fun a w h => hx a w (hc _ a w [] h)⟩))))
  · exact .inr (.inr (.inr (.inr (.inr ⟨j, oi, oj, ho, hoj, hq, fun a w σx h => h1 a w σx (hc _ a w σx h), fun a w σx h => h2 a w σx (hc _ a w σx h)⟩))))
theorem GrowO.cap {k : Nat} {E : TypeId} {ad : Option Addr} {m m' c : Nat} {xs : List Value} {o : List (Nat × Obj)} (h : GrowO k E (.slice ad m c) m' xs o) : m' ≤ c := by
 obtain ⟨_, ⟨h2, h3, _⟩ | ⟨b, c', R, h1, _, h3, _⟩⟩ := h
 · omega
 · cases h1; exact h3
section
variable {ops : Array Oper} {Kf : Act → World → Prop} {i f : Nat} {listed : Array Bool}
end
theorem Zev {ops : Array Oper} {H : List Nat} {Kf : Act → World → Prop} {i d j t : Nat} {want : Bool} {T : TypeId} {len : Nat} {parts : Array (Nat × Operand)} {ty : TypeId} {pos : String} {aft : Array Edge} {cap : Nat} {cs : Array Value} {E : TypeId}
  (hS : ∀ k, S k → k < w0.heap.size) (ho : ops[i]? = some ⟨some d, .buildSlice T len parts, ty, pos, aft, some (j, want)⟩) (hj : (ops[j]?).bind (·.dst) = some t) (ht : look L t = some (.bool want)) (hq : Kh ops i H = true)
  (vs : List (Nat × Value)) (hp : parts.toList.map (fun p => (p.1, Fx.ev L p.2)) = vs.map (fun p => (p.1, some p.2)))
  (hr : ∀ w, (Instr.buildSlice T len vs.toArray).run P w = .ok (.slice (some ⟨w.heap.size, 0, none⟩) len cap) (w.alloc (.cells cs E (0, 0)))) (M : List Value) (hM : cs = M.toArray) (hd : d < n)
  (k : ∀ b, Head P ops n S w0 Kf H ((d, .slice (some ⟨b, 0, none⟩) len cap) :: L) σ (Row (some ⟨b, 0, none⟩) M :: Φ)) : Head P ops n S w0 Kf (i :: H) L σ Φ :=
 .inr (.inl ⟨_, ho, hq, fun a w σx hst => Zd9 hst ho hj ht (Jj (v := .slice (some ⟨w.heap.size, 0, none⟩) len cap) (w' := w.alloc (.cells cs E (0, 0)))
  (by simp only [execOp, Zcj hst hp, Sem.run_bind, hr]; rfl)
  ⟨⟨fun _ => (Below.refl _ _).alloc (Nat.le_refl _) _, fun _ _ _ _ he => by cases he⟩, _, σ, _, rfl, ((hst.alloc _).shareAll hS M hM).put hd _, k _⟩)⟩)
end Go.Fx
