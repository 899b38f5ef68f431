/- A shared row appended in a drawn region. By an AI agent. -/
import Derived.Test.YtgkicbaomcmfoaaGreatDoorFxM
set_option linter.unusedVariables false
set_option linter.unusedSimpArgs false
set_option linter.unusedSectionVars false
namespace Go.Fx
open Go Go.RowKit
variable {ty : TypeId} {pos : String} {aft : Array Edge}
variable {P : Program} {n : Nat} {S : Nat → Prop} {w0 w : World} {L : List (Nat × Value)} {σ σ' : List (Nat × Obj)} {Φ : List Zp} {a : Act} {K : Act → World → Prop} {Q : Exit → Act → World → Prop}
theorem Zoy {o : List (Nat × Obj)} {ys : List Value} {ad2 : Option Addr} {xs : List Value} {E E2 : TypeId} (h : St n S w0 L (o ++ σ) Φ a w) {d : Nat} {x y : Operand} {T T2 : TypeId} {g : Option (Nat × Bool)}
  {i : TypeInfo} {z v : Value} {k m m2 c2 : Nat}
  (hx : Fx.ev L x = some v) (hG : GrowO k E v m xs o) (hy : Fx.ev L y = some (.slice ad2 m2 c2)) (hR : Row ad2 ys ∈ Φ)
  (hT : ∀ w, (underlying T).run P w = .ok (.slice E) w) (hT2 : ∀ w, (underlying T2).run P w = .ok (.slice E2) w) (hi : ∀ w, (typeInfo E).run P w = .ok i w) (hk : ∀ w, (Go.sizeOf E).run P w = .ok k w)
  (hz : ∀ w, (zeroValue E).run P w = .ok z w) (hzk : z.cells.size = k) (hk0 : k ≠ 0) (hb : 0 < i.bytes) (hys : ys.length = m2 * k) (hfl : ys.all flat = true)
  (hroom : i.bytes * (2 * (m + m2) + 192) ≤ 281474976710656) (hd : d < n)
  (kk : ∀ v' o' w', GrowO k E v' (m + m2) (xs ++ ys) o' → St n S w0 ((d, v') :: L) (o' ++ σ) Φ (a.put (some d) v') w' → K (a.put (some d) v') w') :
  (Oper.mk (some d) (.call ⟨.builtin .append, #[x, y], #[T, T2]⟩) ty pos aft g).wp P a w K Q := by
 have hnw : ∀ w' : World, w'.heap = w.heap → (Builtin.firstCells k m2 (.slice ad2 m2 c2)).run P w' = .ok ys.toArray w' := by
  obtain ⟨X, _, _, hp⟩ := h.fact hR
  exact Zcx hp hys
 have hrun : ∀ v v' w1 w2, Fx.ev L x = some v → (Builtin.append_ #[T, T2] ty #[v, .slice ad2 m2 c2]).run P w1 = .ok v' w2 →
   (execOp a.eval (Oper.mk (some d) (.call ⟨.builtin .append, #[x, y], #[T, T2]⟩) ty pos aft g)).run P w1 = .ok (.value v') w2 := by
  intro v v' w1 w2 hv h1
  have e : (#[x, y] : Array Operand).map a.eval = #[v, .slice ad2 m2 c2] := by simp [h.ev hv, h.ev hy]
  simp only [execOp, resolve, e, Sem.run_bind, Sem.run_pure, Result.andThen, invoke, Go.builtin, h1]
 have hgrow : ∀ (ad : Option Addr) (c : Nat), Fx.ev L x = some (.slice ad m c) → c < m + m2 → xs.length = m * k → (∀ w' : World, w'.heap = w.heap → (Builtin.firstCells k m (.slice ad m c)).run P w' = .ok xs.toArray w') →
   (Oper.mk (some d) (.call ⟨.builtin .append, #[x, y], #[T, T2]⟩) ty pos aft g).wp P a w K Q := by
  intro ad c hv hc hlen hold
  obtain ⟨c', w', hcc, hheap, hos, htape, hout, hr⟩ := Gp (P := P) (w := w) (c2 := c2) (n := m) (m := m2) (c := c) (xs := xs) (ys := ys) (ad := ad) hT hT2 hi hk hz hzk hk0 hb hroom hc hold hnw ty
  refine Qm (hrun _ _ _ _ hv hr) ?_
  have h' : St n S w0 L (o ++ σ) Φ a w' := by
   refine ⟨h.size, h.defers, h.val, ⟨by rw [hos]; exact h.ext.os, by rw [htape]; exact h.ext.tape, by rw [hout]; exact h.ext.output, by rw [hheap]; exact h.ext.size, fun k hk => by rw [hheap]; exact h.ext.block k hk⟩, fun p hp => by rw [hheap]; exact h.own p hp, h.new, h.nd, ?_⟩
   obtain ⟨X, h1, h2, h3, h4⟩ := h.facts
   exact ⟨X, h1, h2, by rw [hheap]; exact h3, fun R hR => R.st X X w w' (h4 R hR) (fun b _ _ => by rw [hheap]) (by rw [hheap]; exact Nat.le_refl _) (fun b hb => .inl hb)⟩
  refine kk _ [(w'.heap.size, .cells (xs ++ ys ++ Zco (c' - (m + m2)) z.cells.toList).toArray E (0, 0))] _ ⟨by simp [hlen, hys, Nat.add_mul], .inr ⟨w'.heap.size, c', Zco (c' - (m + m2)) z.cells.toList, rfl, ?_, hcc, rfl⟩⟩ (((h'.drop (List.sublist_append_right _ _)).alloc _).put hd _)
  simp only [List.length_append, hlen, hys, Vm, Array.length_toList, hzk]
  rw [← Nat.add_mul, ← Nat.add_mul]; congr 1; omega
 obtain ⟨hlen, ⟨rfl, hm0, ho⟩ | ⟨b, c, R, rfl, hRl, hmc, ho⟩⟩ := hG
 ·
  subst ho
  subst hm0
  have hx0 : xs = [] := List.eq_nil_of_length_eq_zero (by simpa using hlen)
  by_cases h2 : m2 = 0
  ·
   subst h2
   have hy0 : ys = [] := List.eq_nil_of_length_eq_zero (by simpa using hys)
   have hr : (Builtin.append_ #[T, T2] ty #[.slice none 0 0, .slice ad2 0 c2]).run P w = .ok (.slice none 0 0) w := by
    have e := hnw w rfl
    unfold Builtin.append_
    simp only [List.getElem?_toArray, List.getElem?_cons_zero, List.getElem?_cons_succ, Sem.run_bind, hT, hT2, hk, Result.andThen, Sem.run_pure, Bool.false_eq_true, if_false, Builtin.lenOf, Nat.add_zero, Nat.le_refl, if_true, Bool.not_false, e, hy0]
   refine Qm (hrun _ _ _ _ hx hr) ?_
   exact kk _ [] _ ⟨by simp [hx0, hy0], .inl ⟨rfl, rfl, rfl⟩⟩ (h.put hd _)
  ·
   refine hgrow none 0 hx (by omega) hlen (fun w' _ => ?_)
   simp [Builtin.firstCells, hx0]
 ·
  subst ho
  have hb1 := h.own (b, Obj.cells (xs ++ R).toArray E (0, 0)) (by simp)
  by_cases hc : m + m2 ≤ c
  ·
   obtain ⟨w', hr, e1, e2, e3, e4, e5, e6⟩ := Gq (P := P) (w := w) (c2 := c2) (n := m) (m := m2) hT hT2 hk hc hb1 (by rw [List.size_toArray, hRl]; exact Nat.le_refl _) hys hnw hfl ty
   refine Qm (hrun _ _ _ _ hx hr) ?_
   have hle : ys.length ≤ R.length := by
    have h1 : (m + m2) * k ≤ c * k := Nat.mul_le_mul_right k hc
    rw [Nat.add_mul] at h1
    simp at hRl; omega
   rw [← hlen, Vd ys xs R hle] at e5
   have h' := h.turn (σ' := (b, Obj.cells (xs ++ ys ++ R.drop ys.length).toArray E (0, 0)) :: σ) Upd.head e1 e2 e3 e4 e5 e6
   refine kk _ [(b, _)] _ ⟨by simp [hlen, hys, Nat.add_mul], .inr ⟨b, c, R.drop ys.length, rfl, ?_, hc, rfl⟩⟩ (h'.put hd _)
   simp at hRl ⊢; omega
  ·
   refine hgrow _ c hx (by omega) hlen (fun w' hw' => ?_)
   rw [← hw'] at hb1
   simp only [Builtin.firstCells]
   rw [Jt hb1 (by simp [hlen])]
   congr 1
   apply Array.ext'
   simp [hlen]
theorem Head.conv {ops : Array Oper} {Kf : Exit → Act → World → Prop} : ∀ (H : List Nat) (L : List (Nat × Value)) (σ σ' : List (Nat × Obj)) (Φ Φ' : List Zp),
  (∀ L a w σx, St n S w0 L (σx ++ σ) Φ a w → St n S w0 L (σx ++ σ') Φ' a w) → Head P ops n S w0 Kf H L σ' Φ' → Head P ops n S w0 Kf H L σ Φ
 | [], L, σ, σ', Φ, Φ', hc, hH => fun a w h => hH a w (hc L a w [] h)
 | i :: H, L, σ, σ', Φ, Φ', hc, hH => by
  rcases hH with ⟨o, d, v, ld, ho, hd, hdn, hq, hy, hH⟩ | ⟨o, ho, hlo, hw⟩ | ⟨d, T, z, ty, pos, after, ho, hfo, hz, hdn, hH⟩ | ⟨o, d, v, b, ts, ho, hd, hdn, hq, hy, hH⟩ | ⟨hnf, hx⟩ | ⟨j, oi, oj, ho, hoj, hq, h1, h2⟩
  · exact .inl ⟨o, d, v, ld, ho, hd, hdn, hq, fun a w σx h => hy a w σx (hc _ a w σx h), Head.conv H _ σ σ' Φ Φ' hc hH⟩
  · exact .inr (.inl ⟨o, ho, hlo, fun a w σx h => hw a w σx (hc _ a w σx h)⟩)
  ·
   refine .inr (.inr (.inl ⟨d, T, z, ty, pos, after, ho, hfo, hz, hdn, fun b => Head.conv H _ ((b, .cells z.cells T (0, 0)) :: σ) ((b, .cells z.cells T (0, 0)) :: σ') Φ Φ' (fun L a w σx h => ?_) (hH b)⟩))
   have h1 := hc L a w (σx ++ [(b, .cells z.cells T (0, 0))]) (by simpa using h)
   simpa using h1
  · exact .inr (.inr (.inr (.inl ⟨o, d, v, b, ts, ho, hd, hdn, hq, fun a w σx h => hy a w σx (hc _ a w σx h), Head.conv H _ σ σ' Φ Φ' hc hH⟩)))
  · exact .inr (.inr (.inr (.inr (.inl ⟨hnf, fun a w h => hx a w (hc _ a w [] h)⟩))))
  · exact .inr (.inr (.inr (.inr (.inr ⟨j, oi, oj, ho, hoj, hq, fun a w σx h => h1 a w σx (hc _ a w σx h), fun a w σx h => h2 a w σx (hc _ a w σx h)⟩))))
theorem GrowO.cap {k : Nat} {E : TypeId} {ad : Option Addr} {m m' c : Nat} {xs : List Value} {o : List (Nat × Obj)} (h : GrowO k E (.slice ad m c) m' xs o) : m' ≤ c := by
 obtain ⟨_, ⟨h2, h3, _⟩ | ⟨b, c', R, h1, _, h3, _⟩⟩ := h
 · omega
 · cases h1; exact h3
section
variable {ops : Array Oper} {Kf : Exit → Act → World → Prop} {i f : Nat} {listed : Array Bool}
theorem Zn9 (h : St n S w0 L σ Φ a w) {d : Nat} {T : TypeId} {x : Operand} {b off : Nat} {cs : Array Value} {Tb : TypeId} {fr : Nat × Nat} {agg : Bool} {s : Nat} {v : Value}
  (ho : ops[i]? = some ⟨some d, .load T x, ty, pos, aft, none⟩)
  (hx : Fx.ev L x = some (.pointer (some ⟨b, off, none⟩))) (hm : (b, Obj.cells cs Tb fr) ∈ σ) (hagg : ∀ w, (isAgg T).run P w = .ok agg w) (hs : ∀ w, (Go.sizeOf T).run P w = .ok s w)
  (hv : Qu agg s cs off = some v) (hd : d < n)
  (k : ∀ a', St n S w0 ((d, v) :: L) σ Φ a' w → wpX P ops Kf f (listed.setIfInBounds i true) a' w) : Zty P ops Kf f listed i a w :=
 Xq ho (Qm (v := v) (w' := w) (by
  simp only [execOp, h.ev hx, Sem.run_bind, Xn (h.own _ hm) hagg hs hv]; rfl)
  ⟨fun o ho' => by rw [ho] at ho'; cases ho'; exact Left.same (ops := ops) (o := ⟨some d, .load T x, ty, pos, aft, none⟩) ho (notF ho (fun _ he => by cases he)), k _ (h.put hd v)⟩)
theorem Zub (h : St n S w0 L σ Φ a w) {d : Nat} {g : FuncId} {args : Array Operand} {tys : Array TypeId} {vs : List Value} {Φ' : List Zp} {post : Value → List Zp → Prop}
  (ho : ops[i]? = some ⟨some d, .call ⟨.value (.func g), args, tys⟩, ty, pos, aft, none⟩) (ha : args.toList.map (Fx.ev L) = vs.map some)
  (hc : ∀ args w, (callFunc g args).run P w = .ok (.enter g args) w) (hf : Ctr P g vs Φ' post) (hsub : ∀ R ∈ Φ', R ∈ Φ) (hd : d < n)
  (k : ∀ v Ψ a' w', post v Ψ → St n S w0 ((d, v) :: L) σ (Ψ ++ Φ) a' w' → wpX P ops Kf f (listed.setIfInBounds i true) a' w') : Zty P ops Kf f listed i a w :=
 Xq ho (Zlg h ha hc hf hsub hd fun u Ψ w' hp hx hst =>
  ⟨fun o ho' => by rw [ho] at ho'; cases ho'; exact ⟨fun _ => hx, (fun _ _ _ _ he => by cases he), fun t ht => Zay (o := ⟨some d, .call ⟨.value (.func g), args, tys⟩, ty, pos, aft, none⟩) ho ht, fun t hdt hf => noF ho (fun _ he => by cases he) hdt hf⟩, k _ _ _ _ hp hst⟩)
theorem Zeb {o : List (Nat × Obj)} {ys : List Value} {ad2 : Option Addr} {xs : List Value} {E E2 : TypeId} (h : St n S w0 L (o ++ σ) Φ a w) {d : Nat} {x y : Operand} {T T2 : TypeId} {ty : TypeId} {pos : String} {aft : Array Edge}
  {ti : TypeInfo} {z v : Value} {k m m2 c2 : Nat}
  (ho : ops[i]? = some ⟨some d, .call ⟨.builtin .append, #[x, y], #[T, T2]⟩, ty, pos, aft, none⟩)
  (hx : Fx.ev L x = some v) (hG : GrowO k E v m xs o) (hy : Fx.ev L y = some (.slice ad2 m2 c2)) (hR : Row ad2 ys ∈ Φ)
  (hT : ∀ w, (underlying T).run P w = .ok (.slice E) w) (hT2 : ∀ w, (underlying T2).run P w = .ok (.slice E2) w) (hi : ∀ w, (typeInfo E).run P w = .ok ti w) (hk : ∀ w, (Go.sizeOf E).run P w = .ok k w)
  (hz : ∀ w, (zeroValue E).run P w = .ok z w) (hzk : z.cells.size = k) (hk0 : k ≠ 0) (hb : 0 < ti.bytes) (hys : ys.length = m2 * k) (hfl : ys.all flat = true)
  (hroom : ti.bytes * (2 * (m + m2) + 192) ≤ 281474976710656) (hd : d < n)
  (kk : ∀ v' o' a' w', GrowO k E v' (m + m2) (xs ++ ys) o' → St n S w0 ((d, v') :: L) (o' ++ σ) Φ a' w' → wpX P ops Kf f (listed.setIfInBounds i true) a' w') : Zty P ops Kf f listed i a w :=
 Xq ho (Zoy h hx hG hy hR hT hT2 hi hk hz hzk hk0 hb hys hfl hroom hd fun v' o' w' hg hs =>
  ⟨fun o ho' => by
   rw [ho] at ho'; cases ho'
   exact ⟨fun he => by simp [early] at he, (fun _ _ _ _ he => by cases he), fun t ht => Zay (o := ⟨some d, .call ⟨.builtin .append, #[x, y], #[T, T2]⟩, ty, pos, aft, none⟩) ho ht, fun t hdt hf => noF ho (fun _ he => by cases he) hdt hf⟩, kk _ _ _ _ hg hs⟩)
end
end Go.Fx
