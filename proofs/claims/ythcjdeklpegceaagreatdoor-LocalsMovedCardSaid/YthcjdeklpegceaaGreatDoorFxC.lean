/- Slices that grow by append, several of them, in drawn regions too. By an AI agent. -/
import Derived.Test.YthcjdeklpegceaaGreatDoorFxB
set_option linter.unusedVariables false
set_option linter.unusedSimpArgs false
set_option linter.unusedSectionVars false
namespace Go.Fx
open Go Go.RowKit
variable {ty : TypeId} {pos : String} {aft : Array Edge}
variable {P : Program} {n : Nat} {S : Nat → Prop} {w0 : World} {L : List (Nat × Value)} {σ σr : List (Nat × Obj)} {Φ : List Qf} {a : Act} {w : World} {K : Act → World → Prop} {Q : Exit → Act → World → Prop}
def GrowO (k : Nat) (E : TypeId) (v : Value) (m : Nat) (xs : List Value) (o : List (Nat × Obj)) : Prop :=
 xs.length = m * k ∧ ((v = .slice none 0 0 ∧ m = 0 ∧ o = []) ∨
  (∃ b c R, v = .slice (some ⟨b, 0, none⟩) m c ∧ (xs ++ R).length = c * k ∧ m ≤ c ∧ o = [(b, Obj.cells (xs ++ R).toArray E (0, 0))]))
theorem GrowO.nil (k : Nat) (E : TypeId) : GrowO k E (.slice none 0 0) 0 [] [] := ⟨by simp, .inl ⟨rfl, rfl, rfl⟩⟩
theorem GrowO.grow {k : Nat} {E : TypeId} {v : Value} {m : Nat} {xs : List Value} {o : List (Nat × Obj)} (h : GrowO k E v m xs o) (σr : List (Nat × Obj)) : Grow k E v m xs (o ++ σr) σr := by
 obtain ⟨h1, ⟨rfl, rfl, rfl⟩ | ⟨b, c, R, rfl, h2, h3, rfl⟩⟩ := h
 · exact ⟨h1, .inl ⟨rfl, rfl, rfl⟩⟩
 · exact ⟨h1, .inr ⟨b, c, R, rfl, h2, h3, rfl⟩⟩
theorem Grow.growO {k : Nat} {E : TypeId} {v : Value} {m : Nat} {xs : List Value} {σ σr : List (Nat × Obj)} (h : Grow k E v m xs σ σr) : ∃ o, σ = o ++ σr ∧ GrowO k E v m xs o := by
 obtain ⟨h1, ⟨rfl, rfl, rfl⟩ | ⟨b, c, R, rfl, h2, h3, rfl⟩⟩ := h
 · exact ⟨[], rfl, h1, .inl ⟨rfl, rfl, rfl⟩⟩
 · exact ⟨[_], rfl, h1, .inr ⟨b, c, R, rfl, h2, h3, rfl⟩⟩
theorem GrowO.flat {k : Nat} {E : TypeId} {v : Value} {m : Nat} {xs : List Value} {o : List (Nat × Obj)} (h : GrowO k E v m xs o) : Fx.flat v = true := by
 obtain ⟨_, ⟨rfl, _, _⟩ | ⟨_, _, _, rfl, _⟩⟩ := h <;> rfl
theorem GrowO.is {k : Nat} {E : TypeId} {v : Value} {m : Nat} {xs : List Value} {o : List (Nat × Obj)} (h : GrowO k E v m xs o) : ∃ ad c, v = .slice ad m c := by
 obtain ⟨_, ⟨rfl, rfl, _⟩ | ⟨b, c, _, rfl, _⟩⟩ := h
 · exact ⟨_, _, rfl⟩
 · exact ⟨_, _, rfl⟩
theorem Zih {b2 : Nat} {ys : List Value} {Eb2 : TypeId} (h : St n S w0 L σ Φ a w) {d : Nat} {x y : Operand} {T T2 E E2 : TypeId} {g : Option (Nat × Bool)}
  {i : TypeInfo} {z : Value} {k m m2 c2 : Nat} {v : Value} {xs : List Value} {o : List (Nat × Obj)}
  (hx : Fx.ev L x = some v) (hy : Fx.ev L y = some (.slice (some ⟨b2, 0, none⟩) m2 c2)) (hσ : σ.Perm ((b2, .cells ys.toArray Eb2 (0, 0)) :: (o ++ σr))) (hG : GrowO k E v m xs o)
  (hT : ∀ w, (underlying T).run P w = .ok (.slice E) w) (hT2 : ∀ w, (underlying T2).run P w = .ok (.slice E2) w) (hi : ∀ w, (typeInfo E).run P w = .ok i w) (hk : ∀ w, (Go.sizeOf E).run P w = .ok k w)
  (hz : ∀ w, (zeroValue E).run P w = .ok z w) (hzk : z.cells.size = k) (hk0 : k ≠ 0) (hb : 0 < i.bytes) (hys : ys.length = m2 * k) (hfl : ys.all flat = true) (hm2 : 0 < m2)
  (hroom : i.bytes * (2 * (m + m2) + 192) ≤ 281474976710656) (hd : d < n)
  (kk : ∀ v' o' w', GrowO k E v' (m + m2) (xs ++ ys) o' → St n S w0 ((d, v') :: L) (o' ++ σr) Φ (a.put (some d) v') w' → K (a.put (some d) v') w') :
  (Oper.mk (some d) (.call ⟨.builtin .append, #[x, y], #[T, T2]⟩) ty pos aft g).wp P a w K Q :=
 Zkc (h.perm hσ.symm) hx hy (hG.grow σr) hT hT2 hi hk hz hzk hk0 hb hys hfl hm2 hroom hd fun v' σ' w' hg hs => by
  obtain ⟨o', rfl, hg'⟩ := hg.growO
  exact kk v' o' w' hg' hs
theorem Zcq {b2 : Nat} {ys : List Value} {Eb2 : TypeId} (h : St n S w0 L σ Φ a w) {d : Nat} {x y : Operand} {T T2 E E2 : TypeId} {g : Option (Nat × Bool)}
  {i : TypeInfo} {z : Value} {k m m2 c2 : Nat} {v : Value} {xs : List Value} {o : List (Nat × Obj)}
  (hx : Fx.ev L x = some v) (hy : Fx.ev L y = some (.slice (some ⟨b2, 0, none⟩) m2 c2)) (hσ : σ.Perm ((b2, .cells ys.toArray Eb2 (0, 0)) :: (o ++ σr))) (hG : GrowO k E v m xs o)
  (hT : ∀ w, (underlying T).run P w = .ok (.slice E) w) (hT2 : ∀ w, (underlying T2).run P w = .ok (.slice E2) w) (hi : ∀ w, (typeInfo E).run P w = .ok i w) (hk : ∀ w, (Go.sizeOf E).run P w = .ok k w)
  (hz : ∀ w, (zeroValue E).run P w = .ok z w) (hzk : z.cells.size = k) (hk0 : k ≠ 0) (hb : 0 < i.bytes) (hys : ys.length = m2 * k) (hfl : ys.all flat = true) (hm2 : 0 < m2)
  (hroom : i.bytes * (2 * (m + m2) + 192) ≤ 281474976710656) (hd : d < n)
  (kk : ∀ v' o' a' w', GrowO k E v' (m + m2) (xs ++ ys) o' → St n S w0 ((d, v') :: L) (o' ++ σr) Φ a' w' → K a' w') :
  (Oper.mk (some d) (.call ⟨.builtin .append, #[x, y], #[T, T2]⟩) ty pos aft g).wp P a w K Q :=
 Zih h hx hy hσ hG hT hT2 hi hk hz hzk hk0 hb hys hfl hm2 hroom hd fun v' o' w' hg hs => kk v' o' _ w' hg hs
theorem Gf {ops : Array Oper} {H : List Nat} {Kf : Exit → Act → World → Prop} {j b2 : Nat} {ys : List Value} {Eb2 : TypeId} {d : Nat} {x y : Operand} {T T2 E E2 : TypeId} {ty : TypeId} {pos : String} {aft : Array Edge}
  {i : TypeInfo} {z : Value} {k m m2 c2 : Nat} {v : Value} {xs : List Value} {o : List (Nat × Obj)}
  (ho : ops[j]? = some ⟨some d, .call ⟨.builtin .append, #[x, y], #[T, T2]⟩, ty, pos, aft, none⟩) (hq : Gl ops j H = true)
  (hx : Fx.ev L x = some v) (hy : Fx.ev L y = some (.slice (some ⟨b2, 0, none⟩) m2 c2)) (hσ : σ.Perm ((b2, .cells ys.toArray Eb2 (0, 0)) :: (o ++ σr))) (hG : GrowO k E v m xs o)
  (hT : ∀ w, (underlying T).run P w = .ok (.slice E) w) (hT2 : ∀ w, (underlying T2).run P w = .ok (.slice E2) w) (hi : ∀ w, (typeInfo E).run P w = .ok i w) (hk : ∀ w, (Go.sizeOf E).run P w = .ok k w)
  (hz : ∀ w, (zeroValue E).run P w = .ok z w) (hzk : z.cells.size = k) (hk0 : k ≠ 0) (hb : 0 < i.bytes) (hys : ys.length = m2 * k) (hfl : ys.all flat = true) (hm2 : 0 < m2)
  (hroom : i.bytes * (2 * (m + m2) + 192) ≤ 281474976710656) (hd : d < n)
  (kk : ∀ v' o', GrowO k E v' (m + m2) (xs ++ ys) o' → Head P ops n S w0 Kf H ((d, v') :: L) (o' ++ σr) Φ) : Head P ops n S w0 Kf (j :: H) L σ Φ :=
 .inr (.inl ⟨_, ho, hq, fun a w σx hst => Zbe ho (Zih (σr := σr ++ σx) hst hx hy
  ((List.perm_append_comm.trans (hσ.append_right σx)).trans (by rw [List.cons_append, List.append_assoc])) hG hT hT2 hi hk hz hzk hk0 hb hys hfl hm2 hroom hd fun v' o' w' hg hs =>
   ⟨⟨fun he => by simp [early] at he, fun _ _ _ _ he => by cases he⟩, v', o' ++ σr, Φ, rfl, hs.perm (by rw [← List.append_assoc o' σr σx]; exact List.perm_append_comm), kk v' o' hg⟩)⟩)
theorem Zss {ops : Array Oper} {H : List Nat} {Kf : Exit → Act → World → Prop} {i d : Nat} {x : Operand} {f : FuncId} {fs cs : List Value} {args : Array Operand} {tys : Array TypeId} {ty : TypeId} {pos : String} {aft : Array Edge}
  {vs : List Value} {Φ' : List Qf} {post : Value → List Qf → Prop}
  (ho : ops[i]? = some ⟨some d, .call ⟨.value x, args, tys⟩, ty, pos, aft, none⟩) (hq : Gl ops i H = true) (hx : Fx.ev L x = some (.func (.func f) fs.toArray cs.toArray)) (ha : args.toList.map (Fx.ev L) = vs.map some)
  (hc : ∀ args w, (callFunc f args).run P w = .ok (.enter f args) w) (hf : Ctr P f (fs ++ vs ++ cs) Φ' post) (hsub : ∀ R ∈ Φ', R ∈ Φ) (hd : d < n)
  (k : ∀ v Ψ, post v Ψ → Head P ops n S w0 Kf H ((d, v) :: L) σ (Ψ ++ Φ)) : Head P ops n S w0 Kf (i :: H) L σ Φ :=
 .inr (.inl ⟨_, ho, hq, fun a w σx hst => Zbe ho (by
  obtain ⟨X, h1, h2, h3, h4⟩ := hst.facts
  simp only [Oper.wp, Zh9 hst hx ha hc, Oper.upon]
  refine (hf X w h3 (fun R hR => h4 R (hsub R hR))).mono ?_
  rintro e w' ⟨v, Ψ, rfl, hp, hb, h5⟩
  exact ⟨⟨fun _ => hb, fun _ _ _ _ he => by cases he⟩, v, σ, Ψ ++ Φ, rfl, (hst.called hb h1 h2 h3 h4 h5).put hd v, k v Ψ hp⟩)⟩)
theorem Zbo {ops : Array Oper} {H : List Nat} {Kf : Exit → Act → World → Prop} {i d : Nat} {x : Operand} {f : FuncId} {fs cs : List Value} {args : Array Operand} {tys : Array TypeId} {ty : TypeId} {pos : String} {aft : Array Edge}
  {vs : List Value} {v : Value} {Φ' : List Qf}
  (ho : ops[i]? = some ⟨some d, .call ⟨.value x, args, tys⟩, ty, pos, aft, none⟩) (hq : Gl ops i H = true) (hx : Fx.ev L x = some (.func (.func f) fs.toArray cs.toArray)) (ha : args.toList.map (Fx.ev L) = vs.map some)
  (hc : ∀ args w, (callFunc f args).run P w = .ok (.enter f args) w) (hf : Gh P f (fs ++ vs ++ cs) Φ' v) (hsub : ∀ R ∈ Φ', R ∈ Φ) (hd : d < n)
  (k : Head P ops n S w0 Kf H ((d, v) :: L) σ Φ) : Head P ops n S w0 Kf (i :: H) L σ Φ :=
 Zss ho hq hx ha hc hf hsub hd fun u Ψ hp => by obtain ⟨rfl, rfl⟩ := hp; exact k
theorem Zmv (h : St n S w0 L σ Φ a w) {d : Nat} {x : Operand} {f : FuncId} {fs cs : List Value} {args : Array Operand} {tys : Array TypeId} {g : Option (Nat × Bool)}
  {vs : List Value} {v : Value} {Φ' : List Qf} (hx : Fx.ev L x = some (.func (.func f) fs.toArray cs.toArray)) (ha : args.toList.map (Fx.ev L) = vs.map some)
  (hc : ∀ args w, (callFunc f args).run P w = .ok (.enter f args) w) (hf : Gh P f (fs ++ vs ++ cs) Φ' v) (hsub : ∀ R ∈ Φ', R ∈ Φ) (hd : d < n)
  (k : ∀ a' w', St n S w0 ((d, v) :: L) σ Φ a' w' → K a' w') : (Oper.mk (some d) (.call ⟨.value x, args, tys⟩) ty pos aft g).wp P a w K Q :=
 Zqe h hx ha hc hf hsub hd fun u Ψ a' w' hp hst => by obtain ⟨rfl, rfl⟩ := hp; exact k a' w' hst
section
variable {ops : Array Oper} {Kf : Exit → Act → World → Prop} {i f : Nat} {listed : Array Bool}
abbrev XGoal (P : Program) (ops : Array Oper) (Kf : Exit → Act → World → Prop) (f : Nat) (listed : Array Bool) (i : Nat) (a : Act) (w : World) : Prop :=
 wpOp P ops (QN Kf) i (fun a' w' => (∀ o, ops[i]? = some o → Left ops o a w a' w') ∧ wpX P ops Kf f (listed.setIfInBounds i true) a' w') a w
end
theorem pm_cc {α : Type} {e x : α} {l r : List α} (p : l.Perm (x :: r)) : (e :: l).Perm (x :: e :: r) := (p.cons e).trans (List.Perm.swap x e r)
theorem Zyg {α : Type} {e : α} {o l r : List α} (p : l.Perm (o ++ r)) : (e :: l).Perm (o ++ (e :: r)) := (p.cons e).trans List.perm_middle.symm
theorem Zga {α : Type} {x : α} {o l r : List α} (p : l.Perm (x :: r)) : (o ++ l).Perm (x :: (o ++ r)) := (p.append_left o).trans List.perm_middle
theorem St.shareO' {k : Nat} {E : TypeId} {ad : Option Addr} {m m' c : Nat} {xs : List Value} {o : List (Nat × Obj)} (h : St n S w0 L (o ++ σ) Φ a w) (hS : ∀ k, S k → k < w0.heap.size) (hG : GrowO k E (.slice ad m c) m' xs o) :
  St n S w0 L σ (Row ad xs :: Φ) a w := by
 obtain ⟨h1, ⟨h2, rfl, rfl⟩ | ⟨b, c, R, h0, h2, h3, rfl⟩⟩ := hG
 ·
  cases h2
  exact h.derive (fun X _ hne => absurd (List.eq_nil_of_length_eq_zero (by simpa using h1)) hne)
 ·
  cases h0
  exact St.share (off := 0) h hS (fun j hj => by simp [List.getElem?_append_left hj])
theorem Zod {T : Nat} (hT : ∀ w, (underlying T).run P w = .ok .string w) (x : ByteArray) (lo hi : Nat) (h1 : lo ≤ hi) (h2 : hi ≤ x.size) (w : World) :
  (Instr.sliceAt T (.string x) (some (.int .i64 (lo : Int))) (some (.int .i64 (hi : Int))) none).run P w = .ok (.string (x.extract lo hi)) w := by
 have e : ∀ j : Nat, asIntOf (.int .i64 (j : Int)) = (pure (.i64, (j : Int)) : Sem _) := fun _ => rfl
 have a1 : (0 : Int) ≤ (lo : Int) ∧ (lo : Int) ≤ (hi : Int) := by omega
 have a2 : (0 : Int) ≤ (hi : Int) ∧ (hi : Int) ≤ (x.size : Int) := by omega
 unfold Instr.sliceAt
 simp only [Sem.run_bind, hT, Result.andThen]
 unfold Instr.slice
 simp only [Sem.run_bind, hT, Result.andThen, Option.isSome_none, Bool.false_eq_true, if_false, Instr.sliceBounds, Instr.sliceBound, e, Sem.run_pure, a1, a2, and_self, if_true, Int.toNat_natCast]
end Go.Fx
