/- Deferred calls and recover. By an AI agent. -/
import Derived.Test.YtgkicbaomcmfoaaGreatDoorFxE
import Derived.Recover
set_option linter.unusedVariables false
set_option linter.unusedSimpArgs false
set_option linter.unusedSectionVars false
namespace Go.Fx
open Go Go.RowKit
variable {ty : TypeId} {pos : String} {aft : Array Edge}
def up (ds : List Deferred) (a : Act) : Act := { a with defers := a.defers ++ ds }
section
variable {P : Program} {n : Nat} {S : Nat → Prop} {w0 : World} {L : List (Nat × Value)} {σ : List (Nat × Obj)} {Φ Φ0 : List Zp} {a : Act} {w : World} {K : Act → World → Prop} {Q : Exit → Act → World → Prop} {ds : List Deferred} {ops : Array Oper}
theorem Zoe (x : Operand) : (up ds a).eval x = a.eval x := by cases x <;> rfl
theorem Zhg (d : Option Tmp) (v : Value) : (up ds a).put d v = up ds (a.put d v) := by cases d <;> rfl
theorem Zo6 (h : LetsOut (fun e a w => Q e (up ds a) w)) : LetsOut Q := by
 obtain ⟨a, w, h⟩ := h
 exact ⟨_, _, h⟩
theorem Zp1 {o : Oper} (h : o.wp P a w (fun a' w' => K (up ds a') w') (fun e a' w' => Q e (up ds a') w')) : o.wp P (up ds a) w K Q := by
 have he : (up ds a).eval = a.eval := funext Zoe
 unfold Oper.wp at *
 rw [he]
 generalize (execOp a.eval o).run P w = r at *
 unfold Oper.upon at *
 split at h
 · rw [Zhg]; exact h
 · rw [Zhg]; exact h
 · exact (congrArg (fun x => K x _) (show ({ up ds a with defers := _ :: (up ds a).defers } : Act).put o.dst undef = up ds (({ a with defers := _ :: a.defers } : Act).put o.dst undef) from by cases o.dst <;> rfl)).mpr h
 ·
  refine Calls.mono h ?_
  intro e w' hh
  cases e with
  | returned v => simp only at hh ⊢; rw [Zhg]; exact hh
  | panicked ch => exact hh
  | outgrown => exact Zo6 hh
 ·
  refine Rows.mono h ?_
  intro v w' hh
  rw [Zhg]; exact hh
 · exact h
 · exact h.elim
theorem Zxu {o : Oper} (h : o.asks P a w) : o.asks P (up ds a) w := by
 have he : (up ds a).eval = a.eval := funext Zoe
 unfold Oper.asks at *
 rw [he]; exact h
theorem Zf8 : ∀ {l : List Oper} {a : Act} {w : World}, wpList P ops (fun e a w => Q e (up ds a) w) l a w → wpList P ops Q l (up ds a) w
 | [], _, _, h => h
 | o :: l, a, w, h => by
  unfold wpList at h ⊢
  split at h
  ·
   rename_i hc
   rw [if_pos (show Region.wanted o (yielded ops (up ds a).tmps) = true from hc)]
   rcases h with h | ⟨h1, h2⟩
   · exact .inl (Zp1 (K := wpList P ops Q l) (Oper.wp_mono (fun a' w' h' => Zf8 h') h))
   · exact .inr ⟨Zxu h1, Zo6 h2⟩
  ·
   rename_i hc
   rw [if_neg (show ¬ Region.wanted o (yielded ops (up ds a).tmps) = true from hc), Zhg]; exact Zf8 h
theorem Qc7 {i : Nat} (h : wpOp P ops (fun e a w => Q e (up ds a) w) i (fun a w => K (up ds a) w) a w) : wpOp P ops Q i K (up ds a) w := by
 unfold wpOp at *
 split
 ·
  rename_i ho
  simp only [ho] at h
  first | exact h | (rw [Zhg]; exact h) | (simp only [Act.put] at *; exact h)
 ·
  rename_i o ho
  simp only [ho] at h
  split
  ·
   rename_i hw
   rw [if_pos (show Region.wanted o (yielded ops a.tmps) = true from hw)] at h
   rcases h with h | ⟨h1, h2⟩
   · exact .inl (Zp1 h)
   · exact .inr ⟨Zxu h1, Zo6 h2⟩
  ·
   rename_i hw
   rw [if_neg (show ¬ Region.wanted o (yielded ops a.tmps) = true from hw)] at h
   rw [Zhg]; exact h
theorem Zp3 : ∀ {fuel : Nat} {listed : Array Bool} {a : Act} {w : World}, wpAny P .any ops (fun e a w => Q e (up ds a) w) fuel listed a w → wpAny P .any ops Q fuel listed (up ds a) w
 | 0, _, _, _, h => h
 | _ + 1, _, _, _, h => ⟨h.1, fun i hi => Qc7 (wpOp_mono (fun _ _ h' => Zp3 h') (h.2 i hi))⟩
theorem Zlf (h : St n S w0 L σ Φ a w) {c : Operand} {x y : Code} {t : Bool} (hc : Fx.ev L c = some (.bool t)) (k1 : t = true → x.wp P Q (up ds a) w) (k2 : t = false → y.wp P Q (up ds a) w) : (Code.cond c x y).wp P Q (up ds a) w :=
 wp_cond_split ((Zoe c).trans (h.ev hc)) k1 k2
theorem Zoa {id : Nat} {l : List Oper} (hm : P.follows .mixedOrders = true) (h : St n S w0 L σ Φ a w) (H : List Nat)
  (hchk : (Region.noSelect l.toArray && Zna l.toArray && onOK l.toArray && decide (H.Nodup) && H.all (fun i => decide (i < l.toArray.size))) = true)
  (hl : Array.replicate l.toArray.size false = Vi l.toArray H) (hn : l.toArray.size = H.length) (hfl : Gc P l.toArray n H L)
  (hH : Head P l.toArray n S w0 (fun e a w => Q e (up ds a) w) H L σ Φ) : (Code.region id l.toArray true).wp P Q (up ds a) w := by
 refine wp_region_any hm (Zp3 ?_)
 rw [hl, hn]
 exact Qcg H h.drew hchk hfl hH
theorem Zzv (h : St n S w0 L σ Φ a w) {x : Operand} {f : FuncId} {cs : Array Value} {tys : Array TypeId}
  (hx : Fx.ev L x = some (.func (.func f) #[] cs)) (kk : St n S w0 L σ Φ a w → K (up [⟨.fn (.func f) cs, #[]⟩] a) w) : (Oper.mk none (.defer ⟨.value x, #[], tys⟩) ty pos aft none).wp P a w K Q := by
 have hr : (execOp a.eval (Oper.mk none (.defer ⟨.value x, #[], tys⟩) ty pos aft none)).run P w = .ok (.defer ⟨.fn (.func f) cs, #[]⟩) w := by
  simp only [execOp, resolve, Sem.run_bind, h.ev hx]
  simp [Deferred.ofValue]
 simp only [Oper.wp, hr, Oper.upon]
 have e : ({ a with defers := (⟨.fn (.func f) cs, #[]⟩ : Deferred) :: a.defers } : Act).put none undef = up [⟨.fn (.func f) cs, #[]⟩] a := by
  unfold up; rw [h.defers]; rfl
 rw [e]; exact kk h
theorem Zmu (hd : a.defers = []) {fn : Func} {R : Ending → World → Prop} {u : FrameMode} (h : Leaves P fn a.tmps R ds u w) : Leaves P fn (up ds a).tmps R (up ds a).defers u w := by
 unfold up; rw [hd]; exact h
theorem fn_introD {f : FuncId} {fn : Func} {c : Code} {args : List Value} {post : Value → List Zp → Prop}
  (hf : P.funcs[f]? = some fn) (hb : fn.body = some c) (hn : fn.ntmps = n) (hl : args.length ≤ n)
  (h : ∀ S w0 a, (∀ k, S k → k < w0.heap.size) → St n S w0 (Zy1 0 args) [] Φ a w0 → c.wp P (bodyPostD P fn (Zt6 S w0 post)) a w0) : Ctr P f args Φ post := by
 intro X w hX hΦ
 refine calls_of_wp_defers hf hb (h X w _ hX ⟨?_, rfl, fun t v ht => ?_, Below.refl _ _, (fun _ hp => nomatch hp), (fun _ hp => nomatch hp), List.Pairwise.nil, ⟨X, fun _ h => h, (fun _ hp => nomatch hp), hX, hΦ⟩⟩)
 · simp [hn]; omega
 ·
  obtain ⟨_, h2⟩ := Zan args 0 t v ht
  have hlt : t < args.length := by
   rcases Nat.lt_or_ge t args.length with h' | h'
   · exact h'
   · simp [List.getElem?_eq_none h'] at h2
  simp at h2
  rw [Array.getD_eq_getD_getElem?, Array.getElem?_append_left (by simpa using hlt)]
  simp [h2]
theorem retD (h : St n S w0 L σ Φ a w) {fn : Func} {post : Value → List Zp → Prop} {v : Value} {Ψ : List Zp} (hr : (results fn a.tmps).run P w = .ok v w)
  (hp : post v Ψ) (hs : ∀ R ∈ Ψ, R ∈ Φ) : Leaves P fn a.tmps (Zt6 S w0 post) [] .returning w := by
 obtain ⟨X, h1, h2, h3, h4⟩ := h.facts
 exact ⟨v, hr, v, Ψ, rfl, hp, h.ext, fun R hR => R.st X S w w (h4 R (hs R hR)) (fun _ _ _ => rfl) (Nat.le_refl _) (fun b hb => .inl (h1 b hb))⟩
theorem retD0 (h : St n S w0 L σ Φ a w) {fn : Func} {post : Value → List Zp → Prop} {v : Value} {Ψ : List Zp} (hr : (results fn a.tmps).run P w = .ok v w)
  (hp : post v Ψ) (hs : ∀ R ∈ Ψ, R ∈ Φ) : bodyPostD P fn (Zt6 S w0 post) .ret a w := by
 show Leaves P fn a.tmps _ a.defers .returning w
 rw [h.defers]; exact retD h hr hp hs
theorem Mem.perm {σ' : List (Nat × Obj)} (h : Mem S w0 σ Φ w) (hp : σ.Perm σ') : Mem S w0 σ' Φ w := by
 obtain ⟨X, h1, h2, h3, h4⟩ := h.facts
 exact ⟨h.ext, fun p hm => h.own p (hp.mem_iff.2 hm), fun p hm => h.new p (hp.mem_iff.2 hm), (hp.pairwise_iff (fun {x y} hne => hne.symm)).1 h.nd, X, h1, fun p hm => h2 p (hp.mem_iff.2 hm), h3, h4⟩
theorem St.reMem (h : St n S w0 L σ Φ a w) {σ' : List (Nat × Obj)} {Φ' : List Zp} {w' : World} (hm : Mem S w0 σ' Φ' w') : St n S w0 L σ' Φ' a w' :=
 ⟨h.size, h.defers, h.val, hm.ext, hm.own, hm.new, hm.nd, hm.facts⟩
theorem op_val (h : St n S w0 L σ Φ a w) {d : Nat} {op : Op} {g : Option (Nat × Bool)} {v : Value}
  (hr : (execOp a.eval (Oper.mk (some d) op ty pos aft g)).run P w = .ok (.value v) w) (hd : d < n) (k : ∀ a', St n S w0 ((d, v) :: L) σ Φ a' w → K a' w) : (Oper.mk (some d) op ty pos aft g).wp P a w K Q :=
 Qm hr (k _ (h.put hd v))
section
variable {QS : Exit → Act → List Frame → World → Prop} {cs cs' : List Frame} {rest : List Nat} {i : Nat}
theorem s_wp {o : Oper} (ho : ops[i]? = some o) (hw : o.guard = none) (h : o.wp P a w (fun a' w' => wpOpsS P ops QS rest a' cs w') (fun e a' w' => QS e a' cs w')) : wpOpsS P ops QS (i :: rest) a cs w := by
 have hwant : Region.wanted o (yielded ops a.tmps) = true := by unfold Region.wanted; rw [hw]
 simp only [wpOpsS, ho, hwant, if_true]
 unfold Oper.wp at h
 split
 ·
  rename_i w' he
  rw [he] at h
  exact h.elim
 · exact h
theorem Zu8 (h : St n S w0 L σ Φ a w) {d : Nat} {tys : Array TypeId} {v : Value}
  (ho : ops[i]? = some ⟨some d, .call ⟨.builtin .recover, #[], tys⟩, ty, pos, aft, none⟩) (hrec : recoverD cs = some (v, cs')) (hd : d < n)
  (k : ∀ a', St n S w0 ((d, v) :: L) σ Φ a' w → wpOpsS P ops QS rest a' cs' w) : wpOpsS P ops QS (i :: rest) a cs w := by
 have hr : (execOp a.eval ⟨some d, .call ⟨.builtin .recover, #[], tys⟩, ty, pos, aft, none⟩).run P w = .ok .recover w := by
  simp [execOp, resolve, invoke, Go.builtin]
 have hwant : Region.wanted (⟨some d, .call ⟨.builtin .recover, #[], tys⟩, ty, pos, aft, none⟩ : Oper) (yielded ops a.tmps) = true := rfl
 simp only [wpOpsS, ho, hwant, if_true, hr, hrec]
 exact k _ (h.put hd v)
theorem s_idle (h : St n S w0 L σ Φ a w) {d : Nat} {tys : Array TypeId} {ty : TypeId} {pos : String} {aft : Array Edge}
  (ho : ops[i]? = some ⟨some d, .call ⟨.builtin .recover, #[], tys⟩, ty, pos, aft, none⟩) (hrec : recoverD cs = none) (hd : d < n)
  (k : ∀ a', St n S w0 ((d, .nilIface) :: L) σ Φ a' w → wpOpsS P ops QS rest a' cs w) : wpOpsS P ops QS (i :: rest) a cs w := by
 have hr : (execOp a.eval ⟨some d, .call ⟨.builtin .recover, #[], tys⟩, ty, pos, aft, none⟩).run P w = .ok .recover w := by
  simp [execOp, resolve, invoke, Go.builtin]
 have hwant : Region.wanted (⟨some d, .call ⟨.builtin .recover, #[], tys⟩, ty, pos, aft, none⟩ : Oper) (yielded ops a.tmps) = true := rfl
 simp only [wpOpsS, ho, hwant, if_true, hr, hrec]
 exact k _ (h.put hd .nilIface)
theorem Qb1 (h : St n S w0 L σ Φ a w) {d : Nat} {op : Op} {v : Value} (ho : ops[i]? = some ⟨some d, op, ty, pos, aft, none⟩) (hp : Pure1 P L op v) (hd : d < n)
  (k : ∀ a', St n S w0 ((d, v) :: L) σ Φ a' w → wpOpsS P ops QS rest a' cs w) : wpOpsS P ops QS (i :: rest) a cs w := s_wp ho rfl (Qm (hp.run h w) (k _ (h.put hd v)))
theorem fn_introS {f : FuncId} {fn : Func} {c : Code} {args : List Value} {u : FrameMode} {R : Ending → FrameMode → World → Prop}
  (hf : P.funcs[f]? = some fn) (hb : fn.body = some c) (hn : fn.ntmps = n) (hl : args.length ≤ n) (hm : Mem S w0 σ Φ w)
  (h : ∀ (c₀ : Frame) (cs : List Frame) a, c₀.mode = u → St n S w0 (Zy1 0 args) σ Φ a w → c.wpS P (bodyPostS P fn c₀ cs R) a (c₀ :: cs) w) : CallsD P f args.toArray u w R := by
 refine callsD_of_wpS hf hb fun c₀ cs hu => h c₀ cs _ hu ⟨?_, rfl, fun t v ht => ?_, hm.ext, hm.own, hm.new, hm.nd, hm.facts⟩
 · simp [hn]; omega
 ·
  obtain ⟨_, h2⟩ := Zan args 0 t v ht
  have hlt : t < args.length := by
   rcases Nat.lt_or_ge t args.length with h' | h'
   · exact h'
   · simp [List.getElem?_eq_none h'] at h2
  simp at h2
  rw [Array.getD_eq_getD_getElem?, Array.getElem?_append_left (by simpa using hlt)]
  simp [h2]
end
end
end Go.Fx
