/- Functions that return or panic: contracts, the steps of a panic. By an AI agent. -/
import Derived.Test.YtgkicbaomcmfoaaGreatDoorFxM
set_option linter.unusedVariables false
set_option linter.unusedSimpArgs false
set_option linter.unusedSectionVars false
namespace Go.Fx
open Go Go.RowKit
variable {ty : TypeId} {pos : String} {aft : Array Edge}
abbrev optL (d : Option Nat) (v : Value) : List (Nat × Value) := match d with | some d' => [(d', v)] | none => []
abbrev chE (v : Value) : List PanicEntry := [{ v := v, recovered := false }]
theorem Mem.drop {S : Nat → Prop} {w0 w : World} {σ σ' : List (Nat × Obj)} {Φ : List Zp} (h : Mem S w0 σ Φ w) (hs : List.Sublist σ' σ) : Mem S w0 σ' Φ w := by
 obtain ⟨X, h1, h2, h3, h4⟩ := h.facts
 exact ⟨h.ext, fun p hp => h.own p (hs.subset hp), fun p hp => h.new p (hs.subset hp), h.nd.sublist hs, X, h1, fun p hp => h2 p (hs.subset hp), h3, h4⟩
theorem Mem.factsSub {S : Nat → Prop} {w0 w : World} {σ : List (Nat × Obj)} {Φ Φ' : List Zp} (h : Mem S w0 σ Φ w) (hs : ∀ R ∈ Φ', R ∈ Φ) : Mem S w0 σ Φ' w := by
 obtain ⟨X, h1, h2, h3, h4⟩ := h.facts
 exact ⟨h.ext, h.own, h.new, h.nd, X, h1, h2, h3, fun R hR => h4 R (hs R hR)⟩
def Zlp (P : Program) (f : FuncId) (args : List Value) (σ : List (Nat × Obj)) (Φ : List Zp) (post : Value → List (Nat × Obj) → List Zp → Prop) (xpost : Value → List (Nat × Obj) → Prop) : Prop :=
 ∀ (S : Nat → Prop) (w0 w : World), (∀ k, S k → k < w0.heap.size) → Mem S w0 σ Φ w →
  Calls P f args.toArray w fun e w' => (∃ v σ' Ψ, e = .returned v ∧ post v σ' Ψ ∧ Mem S w0 σ' Ψ w') ∨ ∃ v σ', e = .panicked (chE v) ∧ xpost v σ' ∧ Mem S w0 σ' Φ w'
def PostE (S : Nat → Prop) (w0 : World) (Φ : List Zp) (post : Value → List (Nat × Obj) → List Zp → Prop) (xpost : Value → List (Nat × Obj) → Prop) : Ending → World → Prop :=
 fun e w' => (∃ v σ' Ψ, e = .returned v ∧ post v σ' Ψ ∧ Mem S w0 σ' Ψ w') ∨ ∃ v σ', e = .panicked (chE v) ∧ xpost v σ' ∧ Mem S w0 σ' Φ w'
section
variable {P : Program} {n : Nat} {S : Nat → Prop} {w0 : World} {L : List (Nat × Value)} {σ : List (Nat × Obj)} {Φ Φ0 : List Zp} {a : Act} {w : World} {K : Act → World → Prop} {Q : Exit → Act → World → Prop}
 {post : Value → List (Nat × Obj) → List Zp → Prop} {xpost : Value → List (Nat × Obj) → Prop}
theorem fn_introE {f : FuncId} {fn : Func} {c : Code} {args : List Value}
  (hf : P.funcs[f]? = some fn) (hb : fn.body = some c) (hn : fn.ntmps = n) (hl : args.length ≤ n)
  (h : ∀ S w0 a w, (∀ k, S k → k < w0.heap.size) → St n S w0 (Zy1 0 args) σ Φ a w → c.wp P (bodyPost P fn (PostE S w0 Φ post xpost)) a w) : Zlp P f args σ Φ post xpost := by
 intro S w0 w hS hm
 refine calls_of_wp hf hb (h S w0 _ w hS ⟨?_, rfl, fun t v ht => ?_, hm.ext, hm.own, hm.new, hm.nd, hm.facts⟩)
 · simp [hn]; omega
 ·
  obtain ⟨_, h2⟩ := Zan args 0 t v ht
  have hlt : t < args.length := by
   rcases Nat.lt_or_ge t args.length with h' | h'
   · exact h'
   · simp [List.getElem?_eq_none h'] at h2
  simp at h2
  rw [Array.getD_eq_getD_getElem?, Array.getElem?_append_left (by simpa using hlt)]
  simp [h2]
theorem Zvh (h : St n S w0 L σ Φ a w) {fn : Func} {v : Value} {σ' : List (Nat × Obj)} {Ψ : List Zp} (hr : (results fn a.tmps).run P w = .ok v w)
  (hp : post v σ' Ψ) (hσ : List.Sublist σ' σ) (hs : ∀ R ∈ Ψ, R ∈ Φ) : bodyPost P fn (PostE S w0 Φ0 post xpost) .ret a w :=
 ⟨h.defers, v, hr, .inl ⟨v, σ', Ψ, rfl, hp, ((h.drop hσ).factsSub hs).mem⟩⟩
theorem endE (h : St n S w0 L σ Φ a w) {fn : Func} {v : Value} {σ' : List (Nat × Obj)} {Ψ : List Zp} (hr : (results fn a.tmps).run P w = .ok v w)
  (hp : post v σ' Ψ) (hσ : List.Sublist σ' σ) (hs : ∀ R ∈ Ψ, R ∈ Φ) : bodyPost P fn (PostE S w0 Φ0 post xpost) .normal a w := Zvh h hr hp hσ hs
theorem panE' {a : Act} (hd : a.defers = []) {v : Value} {σ1 σ' : List (Nat × Obj)} {w' : World} (hm : Mem S w0 σ1 Φ w')
  (hp : xpost v σ') (hσ : List.Sublist σ' σ1) (hs : ∀ R ∈ Φ0, R ∈ Φ) : a.defers = [] ∧ PostE S w0 Φ0 post xpost (.panicked (chE v)) w' :=
 ⟨hd, .inr ⟨v, σ', rfl, hp, (hm.drop hσ).factsSub hs⟩⟩
theorem Zgl (h : St n S w0 L σ Φ a w) {v : Value} {σ1 σ' : List (Nat × Obj)} {w' : World} (hm : Mem S w0 σ1 Φ w')
  (hp : xpost v σ') (hσ : List.Sublist σ' σ1) (hs : ∀ R ∈ Φ0, R ∈ Φ) : a.defers = [] ∧ PostE S w0 Φ0 post xpost (.panicked (chE v)) w' :=
 ⟨h.defers, .inr ⟨v, σ', rfl, hp, (hm.drop hσ).factsSub hs⟩⟩
theorem Zr6 (h : St n S w0 L σ Φ a w) (hS : ∀ k, S k → k < w0.heap.size) {d : Option Nat} {x : Operand} {f : FuncId} {args : Array Operand} {tys : Array TypeId} {g : Option (Nat × Bool)}
  {us : List Value} {σ1 : List (Nat × Obj)} (hr : (execOp a.eval (Oper.mk d (.call ⟨.value x, args, tys⟩) ty pos aft g)).run P w = .ok (.enter f us.toArray) w)
  (hf : Zlp P f us σ1 Φ post xpost) (hσ : σ.Perm σ1) (hd : ∀ d', d = some d' → d' < n)
  (kx : ∀ v σ' w', xpost v σ' → Mem S w0 σ' Φ w' → Q (.panic (chE v)) a w')
  (k : ∀ v σ' Ψ a' w', post v σ' Ψ → St n S w0 (optL d v ++ L) σ' Ψ a' w' → K a' w') : (Oper.mk d (.call ⟨.value x, args, tys⟩) ty pos aft g).wp P a w K Q := by
 simp only [Oper.wp, hr, Oper.upon]
 have h' : St n S w0 L σ1 Φ a w := h.perm hσ.symm
 refine (hf S w0 w hS h'.mem).mono ?_
 rintro e w' (⟨v, σ', Ψ, rfl, hp, hm⟩ | ⟨v, σ', rfl, hp, hm⟩)
 ·
  have h2 : St n S w0 L σ' Ψ a w' := ⟨h.size, h.defers, h.val, hm.ext, hm.own, hm.new, hm.nd, hm.facts⟩
  cases d with
  | none => exact k v σ' Ψ _ _ hp h2
  | some d => exact k v σ' Ψ _ _ hp (h2.put (hd d rfl) v)
 · exact kx v σ' w' hp hm
theorem Jh (h : St n S w0 L σ Φ a w) (hS : ∀ k, S k → k < w0.heap.size) {d : Option Nat} {f : FuncId} {args : Array Operand} {tys : Array TypeId} {g : Option (Nat × Bool)}
  {vs : List Value} {σ1 : List (Nat × Obj)} (ha : args.toList.map (Fx.ev L) = vs.map some)
  (hc : ∀ args w, (callFunc f args).run P w = .ok (.enter f args) w) (hf : Zlp P f vs σ1 Φ post xpost) (hσ : σ.Perm σ1) (hd : ∀ d', d = some d' → d' < n)
  (kx : ∀ v σ' w', xpost v σ' → Mem S w0 σ' Φ w' → Q (.panic (chE v)) a w')
  (k : ∀ v σ' Ψ a' w', post v σ' Ψ → St n S w0 (optL d v ++ L) σ' Ψ a' w' → K a' w') : (Oper.mk d (.call ⟨.value (.func f), args, tys⟩) ty pos aft g).wp P a w K Q :=
 Zr6 h hS (by simp only [execOp, resolve, Zdv h ha, Sem.run_bind, Act.eval]; simp [Deferred.ofValue, invoke, hc]) hf hσ hd kx k
theorem Zv1 (h : St n S w0 L σ Φ a w) (hS : ∀ k, S k → k < w0.heap.size) {d : Option Nat} {x : Operand} {f : FuncId} {fs cs : List Value} {args : Array Operand} {tys : Array TypeId} {g : Option (Nat × Bool)}
  {vs : List Value} {σ1 : List (Nat × Obj)} (hx : Fx.ev L x = some (.func (.func f) fs.toArray cs.toArray)) (ha : args.toList.map (Fx.ev L) = vs.map some)
  (hc : ∀ args w, (callFunc f args).run P w = .ok (.enter f args) w) (hf : Zlp P f (fs ++ vs ++ cs) σ1 Φ post xpost) (hσ : σ.Perm σ1) (hd : ∀ d', d = some d' → d' < n)
  (kx : ∀ v σ' w', xpost v σ' → Mem S w0 σ' Φ w' → Q (.panic (chE v)) a w')
  (k : ∀ v σ' Ψ a' w', post v σ' Ψ → St n S w0 (optL d v ++ L) σ' Ψ a' w' → K a' w') : (Oper.mk d (.call ⟨.value x, args, tys⟩) ty pos aft g).wp P a w K Q :=
 Zr6 h hS (Zl7 h hx ha hc) hf hσ hd kx k
theorem Zzt (h : St n S w0 L σ Φ a w) {x : Operand} {T : TypeId} {v : Value} {g : Option (Nat × Bool)} (hx : Fx.ev L x = some (.iface T v))
  (k : Q (.panic (chE (.iface T v))) a w) : (Oper.mk none (.panic x) ty pos aft g).wp P a w K Q := by
 have hr : (execOp a.eval (Oper.mk none (.panic x) ty pos aft g)).run P w = .halt (.panic (.iface T v)) w := by
  have he : a.eval x = .iface T v := h.ev hx
  simp only [execOp, he, Sem.run_bind]
  rfl
 simp only [Oper.wp, hr, Oper.upon]
 exact k
theorem Zzu (h : St n S w0 L σ Φ a w) {d : Nat} {x : Operand} {T : TypeId} {u v : Value} {g : Option (Nat × Bool)} (hx : Fx.ev L x = some u)
  (hr : ∀ w, (Instr.makeInterface T u).run P w = .ok v w) (hd : d < n) (k : ∀ a', St n S w0 ((d, v) :: L) σ Φ a' w → K a' w) : (Oper.mk (some d) (.makeInterface T x) ty pos aft g).wp P a w K Q := by
 have hr2 : (execOp a.eval (Oper.mk (some d) (.makeInterface T x) ty pos aft g)).run P w = .ok (.value v) w := by
  have he : a.eval x = u := h.ev hx
  simp only [execOp, he, Sem.run_bind, hr]
  rfl
 simp only [Oper.wp, hr2, Oper.upon]
 exact k _ (h.put hd v)
end
section
variable {P : Program} {ops : Array Oper} {Q Q' : Exit → Act → World → Prop}
theorem Zhb (hq : ∀ e a w, Q e a w → Q' e a w) : ∀ {fuel : Nat} {listed : Array Bool} {a : Act} {w : World}, wpAny P .any ops Q fuel listed a w → wpAny P .any ops Q' fuel listed a w
 | 0, _, _, _, h => ⟨h.1, hq _ _ _ h.2⟩
 | _ + 1, _, _, _, h => ⟨fun h0 => hq _ _ _ (h.1 h0), fun i hi => Zfg hq (wpOp_mono (fun _ _ h' => Zhb hq h') (h.2 i hi))⟩
end
section
variable {P : Program} {n : Nat} {S : Nat → Prop} {w0 : World} {L : List (Nat × Value)} {σ : List (Nat × Obj)} {Φ Φ0 : List Zp} {a : Act} {w : World} {K : Act → World → Prop} {Q : Exit → Act → World → Prop}
 {post : Value → List (Nat × Obj) → List Zp → Prop} {xpost : Value → List (Nat × Obj) → Prop} {ops : Array Oper} {i f : Nat} {listed : Array Bool}
theorem Qc6 {id : Nat} {l : List Oper} (hm : P.follows .mixedOrders = true) (h : St n S w0 L σ Φ a w)
  (k : ∀ a w, St n S w0 L σ Φ a w → wpAny P .any l.toArray Q l.toArray.size (Array.replicate l.toArray.size false) a w) : (Code.region id l.toArray true).wp P Q a w :=
 wp_region_any hm (k _ _ h.drew)
theorem a_pre (H' : List Nat) (L' : List (Nat × Value)) (σ' : List (Nat × Obj)) (Φ' : List Zp)
  (hkey : ∀ a w, St n S w0 L' σ' Φ' a w → wpAny P .any ops Q H'.length (Vi ops H') a w)
  (k : (∀ a w, St n S w0 L' σ' Φ' a w → wpAny P .any ops Q H'.length (Vi ops H') a w) → wpAny P .any ops Q f listed a w) : wpAny P .any ops Q f listed a w := k hkey
theorem Ziq (R : List Nat) (hR : Region.ready .any ops listed = R) (hne : R ≠ [])
  (k : ∀ i ∈ R, wpOp P ops Q i (wpAny P .any ops Q f (listed.setIfInBounds i true)) a w) : wpAny P .any ops Q (f + 1) listed a w :=
 ⟨fun h0 => absurd (hR ▸ h0) hne, hR ▸ k⟩
theorem a_conv {listed' : Array Bool} (he : listed = listed') (h : wpAny P .any ops Q f listed' a w) : wpAny P .any ops Q f listed a w := he ▸ h
theorem Zj1 (h : St n S w0 L σ Φ a w) {d : Nat} {op : Op} {v : Value} (ho : ops[i]? = some ⟨some d, op, ty, pos, aft, none⟩) (hp : Pure1 P L op v) (hd : d < n)
  (k : ∀ a', St n S w0 ((d, v) :: L) σ Φ a' w → K a' w) : wpOp P ops Q i K a w := Xq ho (Qm (hp.run h w) (k _ (h.put hd v)))
theorem Zpr (h : St n S w0 L σ Φ a w) (hS : ∀ k, S k → k < w0.heap.size) {d : Nat} {f : FuncId} {args : Array Operand} {tys : Array TypeId} {ty : TypeId} {pos : String} {aft : Array Edge}
  {vs : List Value} {σ1 : List (Nat × Obj)} {Φ' : List Zp} (ho : ops[i]? = some ⟨some d, .call ⟨.value (.func f), args, tys⟩, ty, pos, aft, none⟩) (ha : args.toList.map (Fx.ev L) = vs.map some)
  (hc : ∀ args w, (callFunc f args).run P w = .ok (.enter f args) w) (hf : Znv P f vs σ1 Φ' post) (hσ : σ.Perm σ1) (hsub : ∀ R ∈ Φ', R ∈ Φ) (hd : d < n)
  (k : ∀ v σ' Ψ a' w', post v σ' Ψ → St n S w0 ((d, v) :: L) σ' Ψ a' w' → K a' w') : wpOp P ops Q i K a w :=
 Xq ho (Xc h hS ha hc hf hσ hsub (fun d' h' => by cases h'; exact hd) fun v σ' Ψ a' w' hp hst => k v σ' Ψ a' w' hp hst)
theorem Qcg (H : List Nat) (h : St n S w0 L σ Φ a w)
  (hchk : (Region.noSelect ops && Zna ops && onOK ops && decide (H.Nodup) && H.all (fun i => decide (i < ops.size))) = true)
  (hfl : Gc P ops n H L) (hH : Head P ops n S w0 Q H L σ Φ) : wpAny P .any ops Q H.length (Vi ops H) a w := by
 simp only [Bool.and_eq_true, decide_eq_true_eq, List.all_eq_true] at hchk
 obtain ⟨⟨⟨⟨h1, h2⟩, h3⟩, h4⟩, h5⟩ := hchk
 refine Zhb ?_ (Zcr _ _ _ _ (Zjp h1 h2 h3 (H.length + H.length) H.length H L σ Φ [] _ a w (Nat.le_refl _) hH (by simpa using h) (by simp) (by simp) (by simp) h4 h5 hfl (by simp [Vi]) (fun i hi => ?_) (by simp)))
 ·
  intro e a w hq
  cases e with
  | normal => exact hq
  | panic ch => exact hq a.tmps
  | _ => exact hq.elim
 · simp [Vi, hi]
theorem Qc5 (h : St n S w0 L σ Φ a w) (hS : ∀ k, S k → k < w0.heap.size) {d : Nat} {g : FuncId} {args : Array Operand} {tys : Array TypeId} {vs : List Value} {σ1 : List (Nat × Obj)}
  (ho : ops[i]? = some ⟨some d, .call ⟨.value (.func g), args, tys⟩, ty, pos, aft, none⟩) (ha : args.toList.map (Fx.ev L) = vs.map some)
  (hc : ∀ args w, (callFunc g args).run P w = .ok (.enter g args) w) (hf : Zlp P g vs σ1 Φ post xpost) (hσ : σ.Perm σ1) (hd : d < n) (hno : ∀ v σ' Ψ, ¬ post v σ' Ψ)
  (kx : ∀ v σ' a' w', a'.defers = [] → xpost v σ' → Mem S w0 σ' Φ w' → Q (.panic (chE v)) a' w') : Zty P ops Q f listed i a w :=
 Xq ho (Jh h hS ha hc hf hσ (fun d' h' => by cases h'; exact hd) (fun v σ' w' hp hm tm => kx v σ' _ w' h.defers hp hm) (fun v σ' Ψ _ _ hp _ => absurd hp (hno v σ' Ψ)))
end
end Go.Fx
