/- Maps in an own block: make, lookup, update. By an AI agent. -/
import Derived.Test.YthcjdeklpegceaaGreatDoorFxZ
import Derived.Test.YthcjdeklpegceaaGreatDoorFxD
import Derived.MapKept
set_option linter.unusedVariables false
set_option linter.unusedSimpArgs false
set_option linter.unusedSectionVars false
namespace Go.Fx
open Go Go.RowKit
variable {ty : TypeId} {pos : String} {aft : Array Edge}
variable {P : Program} {n : Nat} {S : Nat → Prop} {w0 w : World} {L : List (Nat × Value)} {σ σ' : List (Nat × Obj)} {Φ : List Qf} {a : Act} {K : Act → World → Prop} {Q : Exit → Act → World → Prop}
theorem Zse (h : St n S w0 L σ Φ a w) {d : Nat} {T : TypeId} {g : Option (Nat × Bool)} (hd : d < n)
  (k : ∀ b a' w', St n S w0 ((d, .map (some b)) :: L) ((b, .map #[] 0) :: σ) Φ a' w' → K a' w') : (Oper.mk (some d) (.makeMap T none) ty pos aft g).wp P a w K Q :=
 Xf (v := .map (some w.heap.size)) (w' := w.alloc (.map #[] 0)) (by simp only [execOp, Instr.makeMap, Sem.run_bind]; rfl) (k _ _ _ ((h.alloc _).put hd _))
theorem Zu0 (h : St n S w0 L σ Φ a w) {d : Nat} {T : TypeId} {x y : Operand} {ok : Bool} {g : Option (Nat × Bool)} {b : Nat} {es : Array MapEntry} {clock : Nat} {key v : Value}
  (hx : Fx.ev L x = some (.map (some b))) (hy : Fx.ev L y = some key) (hm : (b, Obj.map es clock) ∈ σ)
  (hr : ∀ w : World, w.heap[b]? = some (.map es clock) → (Instr.lookup T (.map (some b)) key ok).run P w = .ok v w) (hd : d < n)
  (k : ∀ a', St n S w0 ((d, v) :: L) σ Φ a' w → K a' w) : (Oper.mk (some d) (.lookup T x y ok) ty pos aft g).wp P a w K Q :=
 Xf (v := v) (w' := w) (by simp only [execOp, h.ev hx, h.ev hy, Sem.run_bind, hr w (h.own _ hm)]; rfl) (k _ (h.put hd v))
theorem Zmu (h : St n S w0 L σ Φ a w) {T : TypeId} {x y z : Operand} {g : Option (Nat × Bool)} {b : Nat} {es es' : Array MapEntry} {clock clock' : Nat} {key val : Value}
  (hx : Fx.ev L x = some (.map (some b))) (hy : Fx.ev L y = some key) (hz : Fx.ev L z = some val) (hu : Upd σ b (.map es clock) (.map es' clock') σ')
  (hr : ∀ w : World, w.heap[b]? = some (.map es clock) → (Instr.mapUpdate T (.map (some b)) key val).run P w = .ok () { w with heap := w.heap.setIfInBounds b (.map es' clock') })
  (k : ∀ a' w', St n S w0 L σ' Φ a' w' → K a' w') : (Oper.mk none (.mapUpdate T x y z) ty pos aft g).wp P a w K Q := by
 have hb := h.own _ hu.mem
 obtain ⟨e1, e2⟩ := MapKept.heap_set (o' := .map es' clock') hb
 refine Zgb (w' := { w with heap := w.heap.setIfInBounds b (.map es' clock') }) (by simp only [execOp, h.ev hx, h.ev hy, h.ev hz, Sem.run_bind, hr w hb]; rfl) (k _ _ ?_)
 exact h.turn hu rfl rfl rfl (by simp) e1 e2
def Zlq (p : MapEntry → Bool) : List MapEntry → Nat → Option (Nat × Value)
 | [], _ => none
 | e :: es, i => if p e then some (i, e.val) else Zlq p es (i + 1)
theorem Zeu {K : TypeId} {key : Value} {p : MapEntry → Bool} : ∀ {es : List MapEntry} {i : Nat} {w : World}, (∀ e ∈ es, ∀ w, (Op.equal K key e.key).run P w = .ok (p e) w) →
  (Instr.findAsking K key es i).run P w = .ok (Zlq p es i) w
 | [], i, w, _ => rfl
 | e :: es, i, w, h => by
  have he := h e List.mem_cons_self w
  simp only [Instr.findAsking, Sem.run_bind, he, Result.andThen, Zlq]
  cases p e
  ·
   simp only [Bool.false_eq_true, if_false]
   exact Zeu (fun e' he' => h e' (List.mem_cons_of_mem _ he'))
  · simp only [if_true]; rfl
theorem Zgv {K : TypeId} {key : Value} {fs : Array Field} {cs : Array Value} {p : MapEntry → Bool} {es : List MapEntry} {w : World} (hK : ∀ w, (underlying K).run P w = .ok (.struct fs) w)
  (h : ∀ e ∈ es, ∀ w, (Op.equal K key e.key).run P w = .ok (p e) w) : (Instr.findKey K key es).run P w = .ok (Zlq p es 0) w := by
 unfold Instr.findKey
 simp only [Sem.run_bind, hK, Result.andThen]
 rcases es with _ | ⟨e, es⟩
 · rfl
 ·
  have : Instr.findNow (.struct fs) key (e :: es) 0 = none := by simp [Instr.findNow, Instr.sameNow]
  rw [this]
  exact Zeu h
theorem Zoi {T K E : TypeId} {key z : Value} {fs : Array Field} {p : MapEntry → Bool} {b : Nat} {es : Array MapEntry} {clock : Nat} (hT : ∀ w, (underlying T).run P w = .ok (.map K E) w)
  (hK : ∀ w, (underlying K).run P w = .ok (.struct fs) w) (hck : ∀ e w, (Instr.checkKey e 10000 K key).run P w = .ok () w) (hz : ∀ w, (zeroValue E).run P w = .ok z w)
  (h : ∀ e ∈ es.toList, ∀ w, (Op.equal K key e.key).run P w = .ok (p e) w) (w : World) (hb : w.heap[b]? = some (.map es clock)) :
  (Instr.lookup T (.map (some b)) key true).run P w = .ok (match Zlq p es.toList 0 with | some (_, v) => .tuple #[v, .bool true] | none => .tuple #[z, .bool false]) w := by
 unfold Instr.lookup
 simp only [Sem.run_bind, hT, Result.andThen, MapKept.run_getObj_map hb, Sem.run_pure, hck, Zgv (cs := #[]) hK h]
 cases Zlq p es.toList 0 with
 | none => simp only [Sem.run_bind, hz, Result.andThen, Sem.run_pure, if_true]
 | some q => simp only [Sem.run_bind, Result.andThen, Sem.run_pure, if_true]
theorem Zg6 {T K E : TypeId} {key val : Value} {fs : Array Field} {p : MapEntry → Bool} {b : Nat} {es : Array MapEntry} {clock : Nat} (hT : ∀ w, (underlying T).run P w = .ok (.map K E) w)
  (hK : ∀ w, (underlying K).run P w = .ok (.struct fs) w) (hck : ∀ e w, (Instr.checkKey e 10000 K key).run P w = .ok () w)
  (h : ∀ e ∈ es.toList, ∀ w, (Op.equal K key e.key).run P w = .ok (p e) w) (hn : Zlq p es.toList 0 = none) (w : World) (hb : w.heap[b]? = some (.map es clock)) :
  (Instr.mapUpdate T (.map (some b)) key val).run P w = .ok () { w with heap := w.heap.setIfInBounds b (.map (es.push { key, val, born := clock }) (clock + 1)) } := by
 unfold Instr.mapUpdate
 simp only [Sem.run_bind, hT, Result.andThen, MapKept.run_getObj_map hb, hck, Zgv (cs := #[]) hK h, hn]
 exact MapKept.run_setObj_map _ hb
theorem Zgu {T E k : Nat} (hT : ∀ w, (underlying T).run P w = .ok (.slice E) w) (hk : ∀ w, (Go.sizeOf E).run P w = .ok k w) (a : Option Addr) (n c : Nat) (h : n ≤ c) (w : World) :
  (Instr.sliceAt T (.slice a n c) none (some (.int .i64 (n : Int))) (some (.int .i64 (n : Int)))).run P w = .ok (.slice a n n) w := by
 have e : asIntOf (.int .i64 (n : Int)) = (pure (.i64, (n : Int)) : Sem _) := rfl
 have hj : (0 : Int) ≤ (n : Int) ∧ (n : Int) ≤ (c : Int) := by omega
 have hj2 : (0 : Int) ≤ (n : Int) ∧ (n : Int) ≤ (n : Int) := by omega
 have ha : (if n = 0 then a else a.map (fun x => x.add 0)) = a := by
  split
  · rfl
  · cases a <;> simp [Znm]
 unfold Instr.sliceAt
 simp only [Sem.run_bind, hT, Result.andThen, Instr.slice, Instr.sliceBounds, Instr.sliceBound, e, Sem.run_pure, hj, hj2, and_self, if_true, hk, Int.toNat_natCast, Nat.zero_mul, Nat.sub_zero, ha]
section
end
theorem Zlm {ops : Array Oper} {H : List Nat} {Kf : Exit → Act → World → Prop} {i d : Nat} {T : TypeId} {len : Nat} {parts : Array (Nat × Operand)} {cap : Nat} {cs : Array Value} {E : TypeId}
  (hS : ∀ k, S k → k < w0.heap.size) (ho : ops[i]? = some ⟨some d, .buildSlice T len parts, ty, pos, aft, none⟩) (hq : Gl ops i H = true)
  (vs : List (Nat × Value)) (hp : parts.toList.map (fun p => (p.1, Fx.ev L p.2)) = vs.map (fun p => (p.1, some p.2)))
  (hr : ∀ w, (Instr.buildSlice T len vs.toArray).run P w = .ok (.slice (some ⟨w.heap.size, 0, none⟩) len cap) (w.alloc (.cells cs E (0, 0)))) (M : List Value) (hM : cs = M.toArray) (hd : d < n)
  (k : ∀ b, Head P ops n S w0 Kf H ((d, .slice (some ⟨b, 0, none⟩) len cap) :: L) σ (Row (some ⟨b, 0, none⟩) M :: Φ)) : Head P ops n S w0 Kf (i :: H) L σ Φ :=
 .inr (.inl ⟨_, ho, hq, fun a w σx hst => Zbe ho (Xf (v := .slice (some ⟨w.heap.size, 0, none⟩) len cap) (w' := w.alloc (.cells cs E (0, 0)))
  (by simp only [execOp, Zfo hst hp, Sem.run_bind, hr]; rfl)
  ⟨⟨fun _ => (Below.refl _ _).alloc (Nat.le_refl _) _, fun _ _ _ _ he => by cases he⟩, _, σ, _, rfl, ((hst.alloc _).shareAll hS M hM).put hd _, k _⟩)⟩)
theorem Qat {f : FuncId} {args : List Value} {v : Value} (h : Xm P f args v) (σ : List (Nat × Obj)) (Φ : List Qf) : Znq P f args σ Φ (fun u σ' Ψ => u = v ∧ σ' = σ ∧ Ψ = Φ) := by
 intro S w0 w hS hm
 obtain ⟨X, h1, h2, h3, h4⟩ := hm.facts
 refine (h X w h3 (fun _ hR => nomatch hR)).mono ?_
 rintro e w' ⟨u, Ψ, rfl, ⟨rfl, rfl⟩, hb, _⟩
 have hlt : ∀ p ∈ σ, p.1 < w.heap.size := fun p hp => h3 _ (h2 p hp)
 exact ⟨_, σ, Φ, rfl, ⟨rfl, rfl, rfl⟩, hm.ext.trans (hb.mono hm.ext.size), fun p hp => by rw [hb.block _ (hlt p hp)]; exact hm.own p hp, hm.new, hm.nd, X, h1, h2,
  fun b hb' => Nat.lt_of_lt_of_le (h3 b hb') hb.size, fun R hR => R.st X X w w' (h4 R hR) (fun b hb' _ => hb.block b hb') hb.size (fun b hb' => .inl hb')⟩
theorem Zsg {o : List (Nat × Obj)} {ys : List Value} {ad2 : Option Addr} {xs : List Value} {E E2 : TypeId} (h : St n S w0 L (o ++ σ) Φ a w) {d : Nat} {x y : Operand} {T T2 : TypeId} {g : Option (Nat × Bool)}
  {i : TypeInfo} {z v : Value} {k m m2 c2 : Nat}
  (hx : Fx.ev L x = some v) (hG : GrowO k E v m xs o) (hy : Fx.ev L y = some (.slice ad2 m2 c2)) (hR : Row ad2 ys ∈ Φ)
  (hT : ∀ w, (underlying T).run P w = .ok (.slice E) w) (hT2 : ∀ w, (underlying T2).run P w = .ok (.slice E2) w) (hi : ∀ w, (typeInfo E).run P w = .ok i w) (hk : ∀ w, (Go.sizeOf E).run P w = .ok k w)
  (hz : ∀ w, (zeroValue E).run P w = .ok z w) (hzk : z.cells.size = k) (hk0 : k ≠ 0) (hb : 0 < i.bytes) (hys : ys.length = m2 * k) (hfl : ys.all flat = true)
  (hroom : i.bytes * (2 * (m + m2) + 192) ≤ 281474976710656) (hd : d < n)
  (kk : ∀ v' o' a' w', GrowO k E v' (m + m2) (xs ++ ys) o' → St n S w0 ((d, v') :: L) (o' ++ σ) Φ a' w' → K a' w') :
  (Oper.mk (some d) (.call ⟨.builtin .append, #[x, y], #[T, T2]⟩) ty pos aft g).wp P a w K Q := by
 have hnw : ∀ w' : World, w'.heap = w.heap → (Builtin.firstCells k m2 (.slice ad2 m2 c2)).run P w' = .ok ys.toArray w' := by
  obtain ⟨X, _, _, hp⟩ := h.fact hR
  exact Zmi hp hys
 have hrun : ∀ v v' w1 w2, Fx.ev L x = some v → (Builtin.append_ #[T, T2] ty #[v, .slice ad2 m2 c2]).run P w1 = .ok v' w2 →
   (execOp a.eval (Oper.mk (some d) (.call ⟨.builtin .append, #[x, y], #[T, T2]⟩) ty pos aft g)).run P w1 = .ok (.value v') w2 := by
  intro v v' w1 w2 hv h1
  have e : (#[x, y] : Array Operand).map a.eval = #[v, .slice ad2 m2 c2] := by simp [h.ev hv, h.ev hy]
  simp only [execOp, resolve, e, Sem.run_bind, Sem.run_pure, Result.andThen, invoke, Go.builtin, h1]
 have hgrow : ∀ (ad : Option Addr) (c : Nat), Fx.ev L x = some (.slice ad m c) → c < m + m2 → xs.length = m * k → (∀ w' : World, w'.heap = w.heap → (Builtin.firstCells k m (.slice ad m c)).run P w' = .ok xs.toArray w') →
   (Oper.mk (some d) (.call ⟨.builtin .append, #[x, y], #[T, T2]⟩) ty pos aft g).wp P a w K Q := by
  intro ad c hv hc hlen hold
  obtain ⟨c', w', hcc, hheap, hos, htape, hout, hr⟩ := Zg7 (P := P) (w := w) (c2 := c2) (n := m) (m := m2) (c := c) (xs := xs) (ys := ys) (ad := ad) hT hT2 hi hk hz hzk hk0 hb hroom hc hold hnw ty
  refine Xf (hrun _ _ _ _ hv hr) ?_
  have h' : St n S w0 L (o ++ σ) Φ a w' := by
   refine ⟨h.size, h.defers, h.val, ⟨by rw [hos]; exact h.ext.os, by rw [htape]; exact h.ext.tape, by rw [hout]; exact h.ext.output, by rw [hheap]; exact h.ext.size, fun k hk => by rw [hheap]; exact h.ext.block k hk⟩, fun p hp => by rw [hheap]; exact h.own p hp, h.new, h.nd, ?_⟩
   obtain ⟨X, h1, h2, h3, h4⟩ := h.facts
   exact ⟨X, h1, h2, by rw [hheap]; exact h3, fun R hR => R.st X X w w' (h4 R hR) (fun b _ _ => by rw [hheap]) (by rw [hheap]; exact Nat.le_refl _) (fun b hb => .inl hb)⟩
  refine kk _ [(w'.heap.size, .cells (xs ++ ys ++ Zfa (c' - (m + m2)) z.cells.toList).toArray E (0, 0))] _ _ ⟨by simp [hlen, hys, Nat.add_mul], .inr ⟨w'.heap.size, c', Zfa (c' - (m + m2)) z.cells.toList, rfl, ?_, hcc, rfl⟩⟩ (((h'.drop (List.sublist_append_right _ _)).alloc _).put hd _)
  simp only [List.length_append, hlen, hys, Zbl, Array.length_toList, hzk]
  rw [← Nat.add_mul, ← Nat.add_mul]; congr 1; omega
 obtain ⟨hlen, ⟨rfl, hm0, ho⟩ | ⟨b, c, R, rfl, hRl, hmc, ho⟩⟩ := hG
 ·
  subst ho
  subst hm0
  have hx0 : xs = [] := List.eq_nil_of_length_eq_zero (by simpa using hlen)
  by_cases h2 : m2 = 0
  ·
   subst h2
   have hy0 : ys = [] := List.eq_nil_of_length_eq_zero (by simpa using hys)
   have hr : (Builtin.append_ #[T, T2] ty #[.slice none 0 0, .slice ad2 0 c2]).run P w = .ok (.slice none 0 0) w := by
    have e := hnw w rfl
    unfold Builtin.append_
    simp only [List.getElem?_toArray, List.getElem?_cons_zero, List.getElem?_cons_succ, Sem.run_bind, hT, hT2, hk, Result.andThen, Sem.run_pure, Bool.false_eq_true, if_false, Builtin.lenOf, Nat.add_zero, Nat.le_refl, if_true, Bool.not_false, e, hy0]
   refine Xf (hrun _ _ _ _ hx hr) ?_
   exact kk _ [] _ _ ⟨by simp [hx0, hy0], .inl ⟨rfl, rfl, rfl⟩⟩ (h.put hd _)
  ·
   refine hgrow none 0 hx (by omega) hlen (fun w' _ => ?_)
   simp [Builtin.firstCells, hx0]
 ·
  subst ho
  have hb1 := h.own (b, Obj.cells (xs ++ R).toArray E (0, 0)) (by simp)
  by_cases hc : m + m2 ≤ c
  ·
   obtain ⟨w', hr, e1, e2, e3, e4, e5, e6⟩ := Zg8 (P := P) (w := w) (c2 := c2) (n := m) (m := m2) hT hT2 hk hc hb1 (by rw [List.size_toArray, hRl]; exact Nat.le_refl _) hys hnw hfl ty
   refine Xf (hrun _ _ _ _ hx hr) ?_
   have hle : ys.length ≤ R.length := by
    have h1 : (m + m2) * k ≤ c * k := Nat.mul_le_mul_right k hc
    rw [Nat.add_mul] at h1
    simp at hRl; omega
   rw [← hlen, Zab ys xs R hle] at e5
   have h' := h.turn (σ' := (b, Obj.cells (xs ++ ys ++ R.drop ys.length).toArray E (0, 0)) :: σ) Upd.head e1 e2 e3 e4 e5 e6
   refine kk _ [(b, _)] _ _ ⟨by simp [hlen, hys, Nat.add_mul], .inr ⟨b, c, R.drop ys.length, rfl, ?_, hc, rfl⟩⟩ (h'.put hd _)
   simp at hRl ⊢; omega
  ·
   refine hgrow _ c hx (by omega) hlen (fun w' hw' => ?_)
   rw [← hw'] at hb1
   simp only [Builtin.firstCells]
   rw [Yq hb1 (by simp [hlen])]
   congr 1
   apply Array.ext'
   simp [hlen]
theorem GrowO.open {k : Nat} {E : TypeId} {ad : Option Addr} {m c : Nat} {xs : List Value} {o : List (Nat × Obj)} (h : GrowO k E (.slice ad m c) m xs o) (hm : 0 < m) :
  ∃ b R, ad = some ⟨b, 0, none⟩ ∧ o = [(b, Obj.cells (xs ++ R).toArray E (0, 0))] ∧ (xs ++ R).length = c * k ∧ m ≤ c := by
 obtain ⟨_, ⟨_, h2, _⟩ | ⟨b, c', R, h1, h2, h3, h4⟩⟩ := h
 · omega
 · cases h1; exact ⟨b, R, rfl, h4, h2, h3⟩
theorem GrowO.close {k : Nat} {E : TypeId} {b m c : Nat} {xs R : List Value} (h1 : xs.length = m * k) (h2 : (xs ++ R).length = c * k) (h3 : m ≤ c) :
  GrowO k E (.slice (some ⟨b, 0, none⟩) m c) m xs [(b, Obj.cells (xs ++ R).toArray E (0, 0))] := ⟨h1, .inr ⟨b, c, R, rfl, h2, h3, rfl⟩⟩
theorem Zkl {f : FuncId} {args : List Value} {k m : Nat} {E : TypeId} {xs : List Value} (h : Zl0 P f args Φ (fun v o => ∃ ad c, v = .slice ad m c ∧ GrowO k E v m xs o)) :
  Ctr P f args Φ (fun v Ψ => ∃ ad c, v = .slice ad m c ∧ Ψ = [Row ad xs]) := by
 intro X w hX hΦ
 refine (h X w hX hΦ).mono ?_
 rintro e w' ⟨v, σn, he, ⟨ad, c, rfl, hG⟩, hb, hn, hd⟩
 refine ⟨_, [Row ad xs], he, ⟨ad, c, rfl, rfl⟩, hb, fun R hR => ?_⟩
 rw [List.mem_singleton] at hR
 subst hR
 obtain ⟨h1, ⟨h2, rfl, rfl⟩ | ⟨b, c', R, h0, h2, h3, rfl⟩⟩ := hG
 · intro hne; exact absurd (List.eq_nil_of_length_eq_zero (by simpa using h1)) hne
 ·
  cases h0
  intro _
  obtain ⟨h4, h5⟩ := hn _ (List.mem_singleton.2 rfl)
  exact ⟨b, 0, _, _, _, rfl, fun hx => by have := hX b hx; simp only at h4; omega, h5, fun j hj => by simp [List.getElem?_append_left hj]⟩
theorem Qcl {f : FuncId} {args : List Value} {k m : Nat} {E : TypeId} {xs : List Value} {u : Value} (h : Zl0 P f args Φ (fun v o => ∃ ad c, v = .tuple #[.slice ad m c, u] ∧ GrowO k E (.slice ad m c) m xs o)) :
  Ctr P f args Φ (fun v Ψ => ∃ ad c, v = .tuple #[.slice ad m c, u] ∧ Ψ = [Row ad xs]) := by
 intro X w hX hΦ
 refine (h X w hX hΦ).mono ?_
 rintro e w' ⟨v, σn, he, ⟨ad, c, rfl, hG⟩, hb, hn, hd⟩
 refine ⟨_, [Row ad xs], he, ⟨ad, c, rfl, rfl⟩, hb, fun R hR => ?_⟩
 rw [List.mem_singleton] at hR
 subst hR
 obtain ⟨h1, ⟨h2, rfl, rfl⟩ | ⟨b, c', R, h0, h2, h3, rfl⟩⟩ := hG
 · intro hne; exact absurd (List.eq_nil_of_length_eq_zero (by simpa using h1)) hne
 ·
  cases h0
  intro _
  obtain ⟨h4, h5⟩ := hn _ (List.mem_singleton.2 rfl)
  exact ⟨b, 0, _, _, _, rfl, fun hx => by have := hX b hx; simp only at h4; omega, h5, fun j hj => by simp [List.getElem?_append_left hj]⟩
theorem Zzu {z : List Value} (hz : z.all flat = true) (m : Nat) : (Zfa m z).all flat = true := by
 rw [List.all_eq_true] at *
 intro v hv
 unfold Zfa at hv
 obtain ⟨l, hl, hv⟩ := List.mem_flatten.1 hv
 rw [List.eq_of_mem_replicate hl] at hv
 exact hz v hv
theorem Zyj (h : St n S w0 L σ Φ a w) {T E : TypeId} {x : Operand} {g : Option (Nat × Bool)} {b off m c : Nat} {cs cs' : Array Value} {Tb : TypeId} {z : Value}
  (hx : Fx.ev L x = some (.slice (some ⟨b, off, none⟩) m c)) (hm : 0 < m) (hT : ∀ w, (underlying T).run P w = .ok (.slice E) w) (hz : ∀ w, (zeroValue E).run P w = .ok z w) (hzc : z.cells ≠ #[])
  (hle : off + m * z.cells.size ≤ cs.size) (hfl : z.cells.toList.all flat = true) (hset : Qc cs off (Zfa m z.cells.toList) = cs')
  (hu : Upd σ b (.cells cs Tb (0, 0)) (.cells cs' Tb (0, 0)) σ')
  (k : ∀ a' w', St n S w0 L σ' Φ a' w' → K a' w') : (Oper.mk none (.call ⟨.builtin .clear, #[x], #[T]⟩) ty pos aft g).wp P a w K Q := by
 subst hset
 obtain ⟨w', hr, e1, e2, e3, e4, e5, e6⟩ := Xw (P := P) b off (T := Tb) (Zfa m z.cells.toList) 0 w cs (h.own _ hu.mem) (by rw [Zbl, Array.length_toList]; omega) (fun u hu => Zd2 ((List.all_eq_true.1 (Zzu hfl m)) u hu))
 have h' := h.turn hu e1 e2 e3 e4 (by simpa using e5) e6
 refine Xf (v := .tuple #[]) (w' := w') ?_ (k _ _ h')
 have e : (#[x] : Array Operand).map a.eval = #[.slice (some ⟨b, off, none⟩) m c] := by simp [h.ev hx]
 obtain ⟨m', rfl⟩ : ∃ m', m = m' + 1 := ⟨m - 1, by omega⟩
 simp only [execOp, resolve, e, Sem.run_bind, Sem.run_pure, Result.andThen, invoke, Go.builtin, Builtin.clear_, List.getElem?_toArray, List.getElem?_cons_zero, hT, hz, Zdm hzc, hr]
section
variable {α : Type} {enc : α → Value} {k : Nat}
theorem Zp7 (p m r : List Value) (s : Nat) (h : m.length = s) : Qe true s (p ++ m ++ r).toArray p.length = some (.agg m.toArray) := by
 subst h
 simp only [Qe, if_true]
 rw [if_pos (by simp)]
 congr 2
 apply Array.ext'
 simp [List.extract_eq_take_drop]
theorem Zum (p : List Value) (x y : List Value) (m r : List Value) (s : Nat) (h : m.length = s) : Qe true s (p ++ (x ++ m ++ y) ++ r).toArray (p.length + x.length) = some (.agg m.toArray) := by
 have := Zp7 (p ++ x) m (y ++ r) s h
 rw [List.length_append] at this
 rw [← this]; congr 2; simp
theorem Zx0 (p : List Value) (x y : List Value) (m m' r : List Value) (h : m.length = m'.length) : Qc (p ++ (x ++ m ++ y) ++ r).toArray (p.length + x.length) m' = (p ++ (x ++ m' ++ y) ++ r).toArray := by
 have := Zbh m' (p ++ x) m (y ++ r) h
 rw [List.length_append] at this
 rw [show p ++ (x ++ m ++ y) ++ r = p ++ x ++ m ++ (y ++ r) by simp, this]; congr 1; simp
theorem Zfy (l : List α) (j : Nat) (h : j < l.length) : cellsOf enc l = cellsOf enc (l.take j) ++ (enc l[j]).cells.toList ++ cellsOf enc (l.drop (j + 1)) := by
 conv => lhs; rw [show l = l.take j ++ [l[j]] ++ l.drop (j + 1) by simp, Qj, Qj, Xq]
theorem Zg3 (l : List α) (j : Nat) (h : j < l.length) (y : α) : cellsOf enc (l.set j y) = cellsOf enc (l.take j) ++ (enc y).cells.toList ++ cellsOf enc (l.drop (j + 1)) := by
 rw [show l.set j y = l.take j ++ [y] ++ l.drop (j + 1) by rw [List.set_eq_take_append_cons_drop, if_pos h]; simp, Qj, Qj, Xq]
theorem Zaf (hk : ∀ x, (enc x).cells.size = k) (l : List α) (j : Nat) (h : j < l.length) : (cellsOf enc (l.take j)).length = j * k := by
 rw [cellsOf_length hk]; simp [Nat.min_eq_left (Nat.le_of_lt h)]
theorem Zid (hk : ∀ x, (enc x).cells.size = k) (hv : ∀ x, enc x = .agg (enc x).cells) (l : List α) (R : List Value) (d : α) (j : Nat) (h : j < l.length) : Qe true k (cellsOf enc l ++ R).toArray (0 + j * k) = some (enc (l.getD j d)) := by
 have hg : l.getD j d = l[j] := by simp [List.getD, h]
 rw [hg, Zfy l j h, Nat.zero_add, ← Zaf hk l j h]
 have := Zp7 (cellsOf enc (l.take j)) (enc l[j]).cells.toList (cellsOf enc (l.drop (j + 1)) ++ R) k (by simp [hk])
 rw [List.append_assoc, this]
 conv => rhs; rw [hv]
theorem Zr4 (hk : ∀ x, (enc x).cells.size = k) (l : List α) (R : List Value) (j : Nat) (h : j < l.length) (y : α) : Qc (cellsOf enc l ++ R).toArray (0 + j * k) (enc y).cells.toList = (cellsOf enc (l.set j y) ++ R).toArray := by
 rw [Zfy l j h, Zg3 l j h, Nat.zero_add, ← Zaf hk l j h, List.append_assoc, List.append_assoc _ _ R]
 exact Zbh _ _ _ _ (by simp [hk])
theorem Zng (hk : ∀ x, (enc x).cells.size = k) (l : List α) (R : List Value) (j : Nat) (h : j < l.length) : 0 + j * k + k ≤ (cellsOf enc l ++ R).toArray.size := by
 have := Km hk l j h
 simp only [List.size_toArray, List.length_append] at *; omega
end
end Go.Fx
