/- Deferred calls and recover. By an AI agent. -/
import Derived.Test.YthcjdeklpegceaaGreatDoorFxE
import Derived.Recover
set_option linter.unusedVariables false
set_option linter.unusedSimpArgs false
set_option linter.unusedSectionVars false
namespace Go.Fx
open Go Go.RowKit
def up (ds : List Deferred) (a : Act) : Act := { a with defers := a.defers ++ ds }
section
variable {P : Program} {n : Nat} {S : Nat → Prop} {w0 : World} {L : List (Nat × Value)} {σ : List (Nat × Obj)} {Φ Φ0 : List Qf} {a : Act} {w : World} {K : Act → World → Prop} {Q : Exit → Act → World → Prop} {ds : List Deferred} {ops : Array Oper}
theorem Ztt (x : Operand) : (up ds a).eval x = a.eval x := by cases x <;> rfl
theorem Zmd (d : Option Tmp) (v : Value) : (up ds a).put d v = up ds (a.put d v) := by cases d <;> rfl
theorem Zvg (h : LetsOut (fun e a w => Q e (up ds a) w)) : LetsOut Q := by
 obtain ⟨a, w, h⟩ := h
 exact ⟨_, _, h⟩
theorem Zxr {o : Oper} (h : o.wp P a w (fun a' w' => K (up ds a') w') (fun e a' w' => Q e (up ds a') w')) : o.wp P (up ds a) w K Q := by
 have he : (up ds a).eval = a.eval := funext Ztt
 unfold Oper.wp at *
 rw [he]
 generalize (execOp a.eval o).run P w = r at *
 unfold Oper.upon at *
 split at h
 · rw [Zmd]; exact h
 · rw [Zmd]; exact h
 · exact (congrArg (fun x => K x _) (show ({ up ds a with defers := _ :: (up ds a).defers } : Act).put o.dst undef = up ds (({ a with defers := _ :: a.defers } : Act).put o.dst undef) from by cases o.dst <;> rfl)).mpr h
 ·
  refine Calls.mono h ?_
  intro e w' hh
  cases e with
  | returned v => simp only at hh ⊢; rw [Zmd]; exact hh
  | panicked ch => exact hh
  | outgrown => exact Zvg hh
 ·
  refine Rows.mono h ?_
  intro v w' hh
  rw [Zmd]; exact hh
 · exact h
 · exact h.elim
theorem Qcx {o : Oper} (h : o.asks P a w) : o.asks P (up ds a) w := by
 have he : (up ds a).eval = a.eval := funext Ztt
 unfold Oper.asks at *
 rw [he]; exact h
theorem Ztl : ∀ {l : List Oper} {a : Act} {w : World}, wpList P ops (fun e a w => Q e (up ds a) w) l a w → wpList P ops Q l (up ds a) w
 | [], _, _, h => h
 | o :: l, a, w, h => by
  unfold wpList at h ⊢
  split at h
  ·
   rename_i hc
   rw [if_pos (show Region.wanted o (yielded ops (up ds a).tmps) = true from hc)]
   rcases h with h | ⟨h1, h2⟩
   · exact .inl (Zxr (K := wpList P ops Q l) (Oper.wp_mono (fun a' w' h' => Ztl h') h))
   · exact .inr ⟨Qcx h1, Zvg h2⟩
  ·
   rename_i hc
   rw [if_neg (show ¬ Region.wanted o (yielded ops (up ds a).tmps) = true from hc), Zmd]; exact Ztl h
theorem Mem.perm {σ' : List (Nat × Obj)} (h : Mem S w0 σ Φ w) (hp : σ.Perm σ') : Mem S w0 σ' Φ w := by
 obtain ⟨X, h1, h2, h3, h4⟩ := h.facts
 exact ⟨h.ext, fun p hm => h.own p (hp.mem_iff.2 hm), fun p hm => h.new p (hp.mem_iff.2 hm), (hp.pairwise_iff (fun {x y} hne => hne.symm)).1 h.nd, X, h1, fun p hm => h2 p (hp.mem_iff.2 hm), h3, h4⟩
section
variable {QS : Exit → Act → List Frame → World → Prop} {cs cs' : List Frame} {rest : List Nat} {i : Nat}
end
end
end Go.Fx
