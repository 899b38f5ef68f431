/- Ranges over functions: iterators' contracts, rounds, the loop. By an AI agent. -/
import Derived.Test.YthcjdeklpegceaaGreatDoorFxF
import Derived.RangeFuncNested
import Derived.RangeFuncCalls
import Derived.RangeFuncLeaves
import Derived.OwnWalkIn
import Derived.LoopN
set_option linter.unusedVariables false
set_option linter.unusedSimpArgs false
set_option linter.unusedSectionVars false
namespace Go.Fx
open Go Go.RowKit
section
variable {P : Program} {n m l : Nat} {S : Nat → Prop} {w0 w : World} {L : List (Nat × Value)} {σ : List (Nat × Obj)} {Φ : List Qf} {a : Act} {K : Act → World → Prop} {Q : Exit → Act → World → Prop} {ops : Array Oper}
theorem Gs : (Fence.wide.depth.isSome = true) → False := fun h => by simp [Fence.wide] at h
theorem Zul {row : String} {args : Array Value} {R : Value → World → Prop} (h : Rows P row args w R) : RowsIn Fence.wide m P row args w R :=
 fun c cs _ => let ⟨v, w', r, s⟩ := h c cs; ⟨v, w', r, stepsIn_wide.2 s⟩
theorem op_in {o : Oper} (hd : ∀ c, o.op ≠ .defer c) (h : o.wp P a w K Q) : o.wpIn (Fence.wide.inRound l) m P a w K Q := by
 refine ⟨fun _ _ => trivial, ?_⟩
 rw [Oper.semAt_plain (Fence.wide.inRound l) _ _ hd]
 unfold Oper.wp at h
 generalize (execOp a.eval o).run P w = r at *
 cases r with
 | ok nx w' =>
  cases nx <;> simp only [Oper.upon, Oper.uponIn] at h ⊢ <;>
   first
    | exact h
    | exact ⟨fun hh => (Gs hh).elim, (CallsIn.inRound l (callsIn_wide.2 h)).mono (fun e w'' he => by cases e <;> exact he)⟩
    | exact ⟨fun hh => (Gs hh).elim, Zul h⟩
    | exact h.elim
 | halt x w' => cases x <;> simp only [Oper.upon, Oper.uponIn] at h ⊢ <;> exact h
theorem Qbx {o : Oper} (h : o.wp P a w K Q) : o.wpIn Fence.wide m P a w K Q := by
 refine ⟨fun _ _ => trivial, ?_⟩
 rw [show Fence.wide.round = none from rfl, Oper.semAt_none]
 unfold Oper.wp at h
 generalize (execOp a.eval o).run P w = r at *
 cases r with
 | ok nx w' =>
  cases nx <;> simp only [Oper.upon, Oper.uponIn] at h ⊢ <;>
   first
    | exact h
    | exact ⟨fun hh => (Gs hh).elim, (callsIn_wide.2 h).mono (fun e w'' he => by cases e <;> exact he)⟩
    | exact ⟨fun hh => (Gs hh).elim, Zul h⟩
    | exact h.elim
 | halt x w' => cases x <;> simp only [Oper.upon, Oper.uponIn] at h ⊢ <;> exact h
theorem Ze {c : Code} {k : Nat} (h : c.wp P (Exit.then (Code.rounds P c Q k) Q) a w) : Code.rounds P c Q (k + 1) a w := h
theorem Zwd {f : FuncId} {args : List Value} {v : Value} (h : Xm P f args v) (Φ : List Qf) : Gh P f args Φ v := fun X w h1 _ => h X w h1 (fun _ hR => nomatch hR)
def Zdu (l : List Oper) : Bool := l.all (fun o => match o.op with | .defer _ => false | _ => true)
theorem Zgz {l : List Oper} (h : Zdu l = true) {o : Oper} (ho : o ∈ l) : ∀ c, o.op ≠ .defer c := fun c e => by
 have := List.all_eq_true.1 h o ho
 rw [e] at this; cases this
theorem Ztm (hQ : ¬ LetsOut Q) : ∀ {r : List Oper} {a : Act} {w : World}, Zdu r = true → wpList P ops Q r a w → wpListIn (Fence.wide.inRound l) m P ops Q r a w
 | [], _, _, _, h => h
 | o :: r, a, w, hd, h => by
  unfold wpList at h
  unfold wpListIn
  have hd' : Zdu r = true := by unfold Zdu at hd ⊢; rw [List.all_cons, Bool.and_eq_true] at hd; exact hd.2
  split at h
  ·
   rename_i hc
   rw [if_pos hc]
   rcases h with h | ⟨_, h2⟩
   · exact op_in (Zgz hd List.mem_cons_self) (Oper.wp_mono (fun a' w' h' => Ztm hQ hd' h') h)
   · exact absurd h2 hQ
  ·
   rename_i hc
   rw [if_neg hc]
   exact ⟨fun _ _ => trivial, Ztm hQ hd' h⟩
theorem Zic {id : Nat} {r : List Oper} (hQ : ¬ LetsOut Q) (hd : Zdu r = true) (h : wpList P r.toArray Q r a w) : (Code.region id r.toArray false).wpIn (Fence.wide.inRound l) m P Q a w :=
 wpIn_region_lit (Ztm hQ hd h)
theorem Qa9 (hQ : ¬ LetsOut Q) {i : Nat} (hd : Zdu ops.toList = true) (h : wpOp P ops Q i K a w) : wpOpIn (Fence.wide.inRound l) m P ops Q i K a w := by
 unfold wpOp at h
 unfold wpOpIn
 split
 ·
  rename_i ho
  simp only [ho] at h
  exact h
 ·
  rename_i o ho
  simp only [ho] at h
  split
  ·
   rename_i hw
   rw [if_pos hw] at h
   rcases h with h | ⟨_, h2⟩
   · exact op_in (Zgz hd (by obtain ⟨h1, h2⟩ := Array.getElem?_eq_some_iff.1 ho; rw [← h2]; simp)) h
   · exact absurd h2 hQ
  ·
   rename_i hw
   rw [if_neg hw] at h
   exact ⟨fun _ _ => trivial, h⟩
theorem Zpr (hQ : ¬ LetsOut Q) (hd : Zdu ops.toList = true) : ∀ {fuel : Nat} {listed : Array Bool} {a : Act} {w : World}, wpAny P .any ops Q fuel listed a w → wpAnyIn (Fence.wide.inRound l) m P .any ops Q fuel listed a w
 | 0, _, _, _, h => h
 | _ + 1, _, _, _, h => ⟨h.1, fun i hi => Qa9 hQ hd (wpOp_mono (fun _ _ h' => Zpr hQ hd h') (h.2 i hi))⟩
theorem Zzg {id : Nat} {r : List Oper} (hm : P.follows .mixedOrders = true) (hQ : ¬ LetsOut Q) (hdf : Zdu r = true) (h : St n S w0 L σ Φ a w) (H : List Nat)
  (hchk : (Region.noSelect r.toArray && Znb r.toArray && onOK r.toArray && decide (H.Nodup) && H.all (fun i => decide (i < r.toArray.size))) = true)
  (hl : Array.replicate r.toArray.size false = Zaz r.toArray H) (hn : r.toArray.size = H.length) (hfl : Zah P r.toArray n H L)
  (hH : Head P r.toArray n S w0 Q H L σ Φ) : (Code.region id r.toArray true).wpIn (Fence.wide.inRound l) m P Q a w := by
 refine wpIn_region_any hm (Zpr hQ (by simpa using hdf) ?_)
 rw [hl, hn]
 exact a_head H h.drew hchk hfl hH
theorem Zfr {K : Act → World → Prop} (hQ : ¬ LetsOut Q) : ¬ LetsOut (Exit.then K Q) := fun ⟨a, w, h⟩ => hQ ⟨a, w, h⟩
theorem Zek {id : Nat} (hQ : ¬ LetsOut Q) : ¬ LetsOut (Exit.inBlock id Q) := fun ⟨a, w, h⟩ => hQ ⟨a, w, h⟩
def Qc1 (P : Program) (l : Nat) (x : Value) (σ : List (Nat × Obj)) (Φ : List Qf) (σ' : List (Nat × Obj)) : Prop :=
 ∀ (S : Nat → Prop) (w0 w : World), (∀ k, S k → k < w0.heap.size) → Mem S w0 σ Φ w → YieldAt Fence.wide 0 P l #[x] w fun e w' => e = .returned (.bool true) ∧ Mem S w0 σ' Φ w'
def ItC (P : Program) (gf : Nat) (lb : List Value) (Φ : List Qf) (xs : List Value) : Prop :=
 ∀ (l : Nat) (B : Nat → List (Nat × Obj)), (∀ k τ, k < xs.length → Qc1 P l (xs.getD k undef) (B k ++ τ) Φ (B (k + 1) ++ τ)) →
  Znq P gf (.func (.yield l) #[] #[] :: lb) (B 0) Φ (fun v σ' Ψ => v = .tuple #[] ∧ σ' = B xs.length ∧ Ψ = Φ)
theorem Zc6 {id : Nat} {r : List Oper} (h : wpListIn Fence.wide 0 P r.toArray Q r a w) : (Code.region id r.toArray false).wp P Q a w :=
 wpIn_wide.1 (wpIn_region_lit h)
theorem Ql {rest : List Oper} {d : Option Tmp} {op : Op} {ty : TypeId} {pos : String} {aft : Array Edge}
  (h : (Oper.mk d op ty pos aft none).wp P a w (wpListIn Fence.wide 0 P ops Q rest) Q) : wpListIn Fence.wide 0 P ops Q (Oper.mk d op ty pos aft none :: rest) a w := by
 have hwant : Region.wanted (Oper.mk d op ty pos aft none) (yielded ops a.tmps) = true := rfl
 simp only [wpListIn, hwant, if_true]
 exact Qbx h
theorem Zed (h : St n S w0 L σ Φ a w) (hS : ∀ k, S k → k < w0.heap.size) {rest : List Oper} {d : Nat} {x y : Operand} {tys : Array TypeId} {ty : TypeId} {pos : String} {aft : Array Edge} {v : Value} {σ1 σ2 : List (Nat × Obj)}
  (hx : Fx.ev L x = some (.func (.yield l) #[] #[])) (hy : Fx.ev L y = some v) (hc : Qc1 P l v σ1 Φ σ2) (hσ : σ.Perm σ1) (hd : d < n)
  (k : ∀ a' w', St n S w0 ((d, .bool true) :: L) σ2 Φ a' w' → wpListIn Fence.wide 0 P ops Q rest a' w') :
  wpListIn Fence.wide 0 P ops Q (Oper.mk (some d) (.call ⟨.value x, #[y], tys⟩) ty pos aft none :: rest) a w := by
 have hwant : Region.wanted (Oper.mk (some d) (.call ⟨.value x, #[y], tys⟩) ty pos aft none) (yielded ops a.tmps) = true := rfl
 simp only [wpListIn, hwant, if_true]
 obtain ⟨fn, tmps, assign, body, hr, hR⟩ := hc S w0 w hS (h.perm hσ.symm).mem
 refine ⟨fun _ _ => trivial, ?_⟩
 have he : (execOp a.eval (Oper.mk (some d) (.call ⟨.value x, #[y], tys⟩) ty pos aft none)).run P w = .ok (.round l fn tmps assign body) w := by
  simp only [execOp, resolve, Sem.run_bind, h.ev hx]
  simp [invoke, h.ev hy, hr, Deferred.ofValue, Result.andThen]
 rw [show Fence.wide.round = none from rfl, Oper.semAt_none, he]
 refine ⟨fun hh => (Gs hh).elim, hR.mono ?_⟩
 rintro e w' ⟨rfl, hm⟩
 have h2 : St n S w0 L σ2 Φ a w' := ⟨h.size, h.defers, h.val, hm.ext, hm.own, hm.new, hm.nd, hm.facts⟩
 exact k _ _ (h2.put hd _)
theorem Zv2 (tmps : Array Value) (p : Nat) (x : Value) : ((#[p].zip #[x]).foldl (fun t (q : Nat × Value) => t.setIfInBounds q.1 q.2) tmps) = tmps.setIfInBounds p x := by simp
def Zwu (P : Program) (n : Nat) (p : Nat) (assign body : Code) (L : List (Nat × Value)) (Φ : List Qf) (x : Value) (σ σ' : List (Nat × Obj)) : Prop :=
 ∀ (S : Nat → Prop) (w0 : World) (l : Nat) (r : Loop) (τ : List (Nat × Obj)) (a : Act) (w : World), (∀ k, S k → k < w0.heap.size) → r.state = .ready → St n S w0 ((p, x) :: L) (σ ++ ((l, .loop r) :: τ)) Φ a w →
  assign.wpIn (Fence.wide.inRound l) 0 P (Exit.then (fun a1 w1 => ∃ σ1 L1, St n S w0 L1 (σ1 ++ ((l, .loop r) :: τ)) Φ a1 w1 ∧
   ∀ w2, St n S w0 L1 (σ1 ++ ((l, .loop { r with state := .busy }) :: τ)) Φ a1 w2 →
    body.wpIn (Fence.wide.inRound l) 0 P (fun e _ w3 => e = .normal ∧ Mem S w0 (σ' ++ ((l, .loop { r with state := .busy }) :: τ)) Φ w3) a1 w2) (fun _ _ _ => False)) a w
theorem Upd.mid {σ τ : List (Nat × Obj)} {b : Nat} {o o' : Obj} : Upd (σ ++ ((b, o) :: τ)) b o o' (σ ++ ((b, o') :: τ)) := by
 induction σ with
 | nil => exact Upd.head
 | cons p σ ih => exact Upd.tail ih
theorem put_lt {w : World} {l : Nat} {o : Obj} (h : w.heap[l]? = some o) : l < w.heap.size := (Array.getElem?_eq_some_iff.1 h).1
theorem St.putObj (h : St n S w0 L σ Φ a w) {b : Nat} {o o' : Obj} {σ' : List (Nat × Obj)} (hu : Upd σ b o o' σ') : St n S w0 L σ' Φ a (w.putObj b o') :=
 h.turn hu rfl rfl rfl (by simp [World.putObj]) (World.putObj_heap_same (put_lt (h.own _ hu.mem))) (fun k hk => World.putObj_heap_other hk)
theorem Mem.st (h : Mem S w0 σ Φ w) {a : Act} (hs : a.tmps.size = n) (hd : a.defers = []) : St n S w0 [] σ Φ a w :=
 ⟨hs, hd, fun t v ht => (by simp [look] at ht), h.ext, h.own, h.new, h.nd, h.facts⟩
theorem Zml {p : Nat} {assign body : Code} {x : Value} {σ1 σ2 : List (Nat × Obj)} (hR : Zwu P n p assign body L Φ x σ1 σ2) {tmps : Array Value} (hsz : tmps.size = n) (hp : p < n)
  (hL : ∀ t v, look L t = some v → tmps.getD t undef = v) {r : Loop} (hr1 : r.state = .ready) (hr2 : r.pending = none) (hr3 : r.tmps = tmps) (hr4 : r.params = #[p]) (hr5 : r.assign = assign) (hr6 : r.body = body) (τ : List (Nat × Obj)) :
  Qc1 P l x (σ1 ++ ((l, .loop r) :: τ)) Φ (σ2 ++ ((l, .loop r) :: τ)) := by
 intro S w0 w hS hm
 have hl : w.heap[l]? = some (.loop r) := hm.own (l, .loop r) (List.mem_append_right _ List.mem_cons_self)
 have hy := run_yield (P := P) (args := #[x]) hl (by rw [hr4]; rfl)
 rw [hr4, hr3, hr5, hr6] at hy
 refine ⟨_, _, _, _, hy, roundIn_of_wpIn trivial ?_⟩
 rw [Zv2]
 have hst : St n S w0 ((p, x) :: L) (σ1 ++ ((l, .loop r) :: τ)) Φ { tmps := tmps.setIfInBounds p x, defers := [] } w := by
  refine ⟨by simp [hsz], rfl, fun t v ht => ?_, hm.ext, hm.own, hm.new, hm.nd, hm.facts⟩
  simp only [look] at ht
  rw [Zq0 _ _ _ _ (by rw [hsz]; exact hp)]
  cases hb : Nat.beq p t with
  | true => rw [hb] at ht; simp at ht; rw [if_pos (Nat.eq_of_beq_eq_true hb)]; exact ht
  | false => rw [hb] at ht; simp at ht; rw [if_neg (Nat.ne_of_beq_eq_false hb)]; exact hL t v ht
 refine wpIn_mono (hR S w0 l r τ _ w hS hr1 hst) ?_
 intro e a1 w1 h1
 cases e with
 | normal =>
  obtain ⟨σ', L1, hst1, hk⟩ := h1
  have hl1 : w1.heap[l]? = some (.loop r) := hst1.own (l, .loop r) (List.mem_append_right _ List.mem_cons_self)
  refine ⟨_, run_beginRound hl1 hr1, wpIn_mono (hk _ (hst1.putObj Upd.mid)) ?_⟩
  rintro e2 a2 w2 ⟨rfl, hm2⟩
  have hl2 : w2.heap[l]? = some (.loop { r with state := .busy }) := hm2.own (l, .loop { r with state := .busy }) (List.mem_append_right _ List.mem_cons_self)
  refine ⟨_, _, run_endRound none hl2, rfl, ?_⟩
  have hrr : ({ ({ r with state := .busy } : Loop) with state := .ready, pending := none } : Loop) = r := by
   cases r; simp only at hr1 hr2; subst hr1; subst hr2; rfl
  have h5 := ((hm2.st (a := { tmps := tmps, defers := [] }) hsz rfl).putObj (o' := .loop r) (Upd.mid (σ := σ2))).mem
  simp only [Option.isNone_none, if_true]
  rw [hrr]
  exact h5
 | exit id => exact h1.elim
 | goto t => exact h1.elim
 | ret => exact h1.elim
 | panic c => exact h1.elim
 | outgrown => exact h1.elim
theorem Zfh (h : St n S w0 L σ Φ a w) {g : Operand} {gf : Nat} {lb : List Value} (hg : Fx.ev L g = some (.func (.func gf) #[] lb.toArray)) (w1 : World) :
  (resolve a.eval (rangeCall g l) 0).run P w1 = .ok { target := .fn (.func gf) lb.toArray, args := #[.func (.yield l) #[] #[]] } w1 := by
 simp only [resolve, h.ev hg]
 simp [go_sem]
theorem rangeF (h : St n S w0 L σ Φ a w) (hS : ∀ k, S k → k < w0.heap.size) {g : Operand} {p : Nat} {assign body : Code} {gf : Nat} {lb : List Value} {xs : List Value} (hg : Fx.ev L g = some (.func (.func gf) #[] lb.toArray))
  (eg : ∀ args w, (callFunc gf args).run P w = .ok (.enter gf args) w) (hit : ItC P gf lb Φ xs) (hp : p < n) (Bs : Nat → List (Nat × Obj)) (h0 : σ.Perm (Bs 0))
  (hR : ∀ k, k < xs.length → Zwu P n p assign body L Φ (xs.getD k undef) (Bs k) (Bs (k + 1)))
  (hdone : ∀ D o w', St n S w0 L ((D, .deferred (some [])) :: o :: Bs xs.length) Φ a w' → Q .normal (up [{ target := .collected D, args := #[] }] a) w') :
  (Code.rangeFunc g #[p] assign body).wp P Q a w := by
 refine (wpIn_wide (n := 0)).1 (wpIn_rangeFunc fun fn _ => ?_)
 obtain ⟨r, hr⟩ : ∃ r : Loop, r = { state := .ready, pending := none, fn, tmps := a.tmps, params := #[p], assign, body, defers := w.heap.size } := ⟨_, rfl⟩
 have h1 := ((h.alloc (.deferred (some []))).alloc (.loop r))
 have h2 : St n S w0 L (Bs 0 ++ ((w.heap.size + 1, .loop r) :: [(w.heap.size, .deferred (some []))])) Φ a ((w.alloc (.deferred (some []))).alloc (.loop r)) := by
  refine h1.perm ?_
  rw [World.size_alloc]
  exact (List.perm_append_comm.trans ((h0.symm.cons _).cons _)).symm.symm
 have hD : (w.alloc (.deferred (some []))).heap.size = w.heap.size + 1 := World.size_alloc ..
 refine ⟨w.heap.size + 1, [{ target := .collected w.heap.size, args := #[] }], (w.alloc (.deferred (some []))).alloc (.loop r), _, _, gf, #[.func (.yield (w.heap.size + 1)) #[] #[]] ++ lb.toArray, (w.alloc (.deferred (some []))).alloc (.loop r),
  by rw [hr]; exact run_enterLoop_outer fn a.tmps #[p] assign body, Zfh h hg _, fun _ _ => trivial, ?_, fun hh => (Gs hh).elim, ?_⟩
 · simp [invoke, go_sem, eg]
 ·
  refine callsIn_wide.2 ?_
  have hc := hit (w.heap.size + 1) (fun k => Bs k ++ ((w.heap.size + 1, .loop r) :: [(w.heap.size, .deferred (some []))]))
   (fun k τ hk => by
    have := Zml (l := w.heap.size + 1) (hR k hk) h.size hp h.val (r := r) (by rw [hr]) (by rw [hr]) (by rw [hr]) (by rw [hr]) (by rw [hr]) (by rw [hr]) ((w.heap.size, .deferred (some [])) :: τ)
    simpa only [List.append_assoc, List.cons_append, List.nil_append] using this) S w0 _ hS h2.mem
  have ea : (#[.func (.yield (w.heap.size + 1)) #[] #[]] ++ lb.toArray : Array Value) = (Value.func (.yield (w.heap.size + 1)) #[] #[] :: lb).toArray := by simp
  rw [ea]
  refine hc.mono ?_
  rintro e w3 ⟨v, σ', Ψ, rfl, ⟨_, e1, e2⟩, hm⟩
  rw [e1, e2] at hm
  have hl3 : w3.heap[w.heap.size + 1]? = some (.loop r) := hm.own (w.heap.size + 1, .loop r) (List.mem_append_right _ List.mem_cons_self)
  refine ⟨none, _, (run_endLoop (P := P) hl3 (by rw [hr]; simp)).trans (congrArg (fun z => Result.ok z _) (show r.pending = none from by rw [hr])), ?_⟩
  have h3 : St n S w0 L _ Φ a w3 := ⟨h.size, h.defers, h.val, hm.ext, hm.own, hm.new, hm.nd, hm.facts⟩
  have h4 := h3.putObj (o' := .loop { r with state := .exhausted }) (Upd.mid (σ := Bs xs.length))
  have h5 := hdone w.heap.size (w.heap.size + 1, .loop { r with state := .exhausted }) _ (h4.perm ((List.Perm.swap _ _ _).trans (List.perm_append_comm (l₁ := [_, _]) (l₂ := Bs xs.length))))
  have eu : ({ a with defers := [{ target := .collected w.heap.size, args := #[] }] ++ a.defers } : Act) = up [{ target := .collected w.heap.size, args := #[] }] a := by unfold up; rw [h.defers]; rfl
  exact eu ▸ h5
theorem Qbp {l0 : Nat} {r0 : Loop} (h : St n S w0 L σ Φ a w) (hS : ∀ k, S k → k < w0.heap.size) (hl0 : (l0, Obj.loop r0) ∈ σ) {g : Operand} {p : Nat} {assign body : Code} {gf : Nat} {lb : List Value} {xs : List Value} (hg : Fx.ev L g = some (.func (.func gf) #[] lb.toArray))
  (eg : ∀ args w, (callFunc gf args).run P w = .ok (.enter gf args) w) (hit : ItC P gf lb Φ xs) (hp : p < n) (Bs : Nat → List (Nat × Obj)) (h0 : σ.Perm (Bs 0))
  (hR : ∀ k, k < xs.length → Zwu P n p assign body L Φ (xs.getD k undef) (Bs k) (Bs (k + 1)))
  (hdone : ∀ o w', St n S w0 L (o :: Bs xs.length) Φ a w' → Q .normal a w') :
  (Code.rangeFunc g #[p] assign body).wpIn (Fence.wide.inRound l0) 0 P Q a w := by
 refine wpIn_rangeFunc fun fn _ => ?_
 obtain ⟨r, hr⟩ : ∃ r : Loop, r = { state := .ready, pending := none, fn, tmps := a.tmps, params := #[p], assign, body, defers := r0.defers } := ⟨_, rfl⟩
 have h1 := h.alloc (.loop r)
 have h2 : St n S w0 L (Bs 0 ++ [(w.heap.size, .loop r)]) Φ a (w.alloc (.loop r)) := by
  refine h1.perm ?_
  exact List.perm_append_comm.trans (h0.symm.cons _)
 refine ⟨w.heap.size, [], w.alloc (.loop r), _, _, gf, #[.func (.yield w.heap.size) #[] #[]] ++ lb.toArray, w.alloc (.loop r),
  by rw [hr]; exact run_enterLoop_inner (h.own _ hl0) fn a.tmps #[p] assign body, Zfh h hg _, fun _ _ => trivial, ?_, fun hh => (Gs hh).elim, ?_⟩
 · simp [invoke, go_sem, eg]
 ·
  refine CallsIn.inRound l0 (callsIn_wide.2 ?_)
  have hc := hit w.heap.size (fun k => Bs k ++ [(w.heap.size, .loop r)])
   (fun k τ hk => by
    have := Zml (l := w.heap.size) (hR k hk) h.size hp h.val (r := r) (by rw [hr]) (by rw [hr]) (by rw [hr]) (by rw [hr]) (by rw [hr]) (by rw [hr]) τ
    simpa only [List.append_assoc, List.cons_append, List.nil_append] using this) S w0 _ hS h2.mem
  have ea : (#[.func (.yield w.heap.size) #[] #[]] ++ lb.toArray : Array Value) = (Value.func (.yield w.heap.size) #[] #[] :: lb).toArray := by simp
  rw [ea]
  refine hc.mono ?_
  rintro e w3 ⟨v, σ', Ψ, rfl, ⟨_, e1, e2⟩, hm⟩
  rw [e1, e2] at hm
  have hl3 : w3.heap[w.heap.size]? = some (.loop r) := hm.own (w.heap.size, .loop r) (List.mem_append_right _ List.mem_cons_self)
  refine ⟨none, _, (run_endLoop (P := P) hl3 (by rw [hr]; simp)).trans (congrArg (fun z => Result.ok z _) (show r.pending = none from by rw [hr])), ?_⟩
  have h3 : St n S w0 L _ Φ a w3 := ⟨h.size, h.defers, h.val, hm.ext, hm.own, hm.new, hm.nd, hm.facts⟩
  have h4 := h3.putObj (o' := .loop { r with state := .exhausted }) (Upd.mid (σ := Bs xs.length))
  exact hdone (w.heap.size, .loop { r with state := .exhausted }) _ (h4.perm (List.perm_append_comm (l₁ := [_]) (l₂ := Bs xs.length)))
theorem fn_introMk {f : FuncId} {fn : Func} {c : Code} {args : List Value} {post : Value → List Qf → Prop}
  (hf : P.funcs[f]? = some fn) (hb : fn.body = some c) (hn : fn.ntmps = n) (hl : args.length ≤ n)
  (h : ∀ S w0 a, (∀ k, S k → k < w0.heap.size) → St n S w0 (Qas 0 args) [] Φ a w0 → c.wp P (bodyPostM Fence.wide 0 P fn (Zzv S w0 post)) a w0) : Ctr P f args Φ post := by
 intro X w hX hΦ
 refine (callsIn_wide (n := 0)).1 (callsIn_of_wp_marks hf hb trivial (wpIn_wide.2 (h X w _ hX ⟨?_, rfl, fun t v ht => ?_, Below.refl _ _, (fun _ hp => nomatch hp), (fun _ hp => nomatch hp), List.Pairwise.nil, ⟨X, fun _ h => h, (fun _ hp => nomatch hp), hX, hΦ⟩⟩)) rfl)
 · simp [hn]; omega
 ·
  obtain ⟨_, h2⟩ := Zdx args 0 t v ht
  have hlt : t < args.length := by
   rcases Nat.lt_or_ge t args.length with h' | h'
   · exact h'
   · simp [List.getElem?_eq_none h'] at h2
  simp at h2
  rw [Array.getD_eq_getD_getElem?, Array.getElem?_append_left (by simpa using hlt)]
  simp [h2]
theorem retMk {D : Nat} {σ' : List (Nat × Obj)} (h : St n S w0 L σ Φ a w) (hu : Upd σ D (.deferred (some [])) (.deferred none) σ') {fn : Func} {post : Value → List Qf → Prop} {v : Value} {Ψ : List Qf}
  (hr : ∀ w', St n S w0 L σ' Φ a w' → (results fn a.tmps).run P w' = .ok v w') (hp : post v Ψ) (hs : ∀ R ∈ Ψ, R ∈ Φ) : bodyPostM Fence.wide 0 P fn (Zzv S w0 post) .ret (up [{ target := .collected D, args := #[] }] a) w := by
 have hD : w.heap[D]? = some (.deferred (some [])) := h.own _ hu.mem
 have h2 := h.putObj hu
 show LeavesInM Fence.wide 0 P fn a.tmps _ (a.defers ++ [_]) .returning w
 rw [h.defers]
 refine ⟨by simp, .inl ⟨D, _, rfl, run_takeDeferred hD, ?_⟩⟩
 obtain ⟨X, h1, h2', h3, h4⟩ := h2.facts
 exact ⟨v, hr _ h2, v, Ψ, rfl, hp, h2.ext, fun R hR => R.st X S _ _ (h4 R (hs R hR)) (fun _ _ _ => rfl) (Nat.le_refl _) (fun b hb => .inl (h1 b hb))⟩
end
end Go.Fx
