/- A shared row behind a growing slice; the tail of a row. By an AI agent. -/
import Derived.Test.YtgkicbaomcmfoaaGreatDoorFxC
set_option linter.unusedVariables false
set_option linter.unusedSimpArgs false
namespace Go.Fx
open Go Go.RowKit
attribute [local irreducible] Oper.wp Code.wp wpList Fx.Head wpOp
variable {P : Program} {n : Nat} {S : Nat → Prop} {w0 w : World} {L : List (Nat × Value)} {σ σr : List (Nat × Obj)} {Φ : List Zp} {a : Act} {K : Act → World → Prop} {Q : Exit → Act → World → Prop}
theorem Zhk {T E k : Nat} (hT : ∀ w, (underlying T).run P w = .ok (.slice E) w) (hk : ∀ w, (Go.sizeOf E).run P w = .ok k w) (b off n c lo : Nat) (h1 : lo ≤ n) (w : World) :
  (Instr.sliceAt T (.slice (some ⟨b, off, none⟩) n c) (some (.int .i64 (lo : Int))) none none).run P w = .ok (.slice (some ⟨b, if c = lo then off else off + lo * k, none⟩) (n - lo) (c - lo)) w := by
 have e : ∀ j : Nat, asIntOf (.int .i64 (j : Int)) = (pure (.i64, (j : Int)) : Sem _) := fun _ => rfl
 have hl : (0 : Int) ≤ (lo : Int) ∧ (lo : Int) ≤ (n : Int) := by omega
 unfold Instr.sliceAt
 simp only [Sem.run_bind, hT, Result.andThen, Instr.slice, Instr.sliceBounds, Instr.sliceBound, e, Sem.run_pure, hl, and_self, if_true, hk, Int.toNat_natCast, Option.map_some, Zch]
 split <;> rfl
theorem row_drop {b off lo c : Nat} {M : List Value} {X : Nat → Prop} {w : World} (h : (Row (some ⟨b, off, none⟩) M).p X w) (hc : M.length ≤ c) : (Row (some ⟨b, if c = lo then off else off + lo * 1, none⟩) (M.drop lo)).p X w := by
 intro hne
 obtain ⟨b', off', cs, T, fr, ha, hb, hcc, hj⟩ := h (fun e => by subst e; simp at hne)
 cases ha
 have hlo : lo < M.length := by
  rcases Nat.lt_or_ge lo M.length with h1 | h1
  · exact h1
  · exact absurd (List.drop_eq_nil_of_le h1) hne
 refine ⟨b, _, cs, T, fr, rfl, hb, hcc, fun j hj' => ?_⟩
 rw [if_neg (by omega)]
 simp at hj'
 rw [show off + lo * 1 + j = off + (lo + j) by omega, hj (lo + j) (by omega), List.getElem?_drop]
theorem Zcx {ad : Option Addr} {ys : List Value} {k m c : Nat} {X : Nat → Prop} (hR : (Row ad ys).p X w) (hy : ys.length = m * k) : ∀ w' : World, w'.heap = w.heap → (Builtin.firstCells k m (.slice ad m c)).run P w' = .ok ys.toArray w' := by
 intro w' hw'
 by_cases he : ys = []
 ·
  subst he
  cases ad with
  | none => simp [Builtin.firstCells]
  | some a => simp at hy; simp only [Builtin.firstCells]; rw [← hy]; simp [loadCells, loadCellsFrom]
 ·
  obtain ⟨b, off, cs, T, fr, rfl, hb, hc, hj⟩ := hR he
  have hpos : 0 < ys.length := List.length_pos_iff.2 he
  have hcs : off + ys.length ≤ cs.size := by
   have h1 := hj (ys.length - 1) (by omega)
   rw [List.getElem?_eq_getElem (by omega)] at h1
   obtain ⟨h2, _⟩ := Array.getElem?_eq_some_iff.1 h1
   omega
  have := Jx (P := P) w' b off (by rw [hw']; exact hc) (m * k) 0 #[] (by omega)
  simp only [Builtin.firstCells, loadCells]
  rw [this]
  congr 1
  apply Array.ext'
  apply List.ext_getElem?
  intro i
  simp only [Array.empty_append, Array.toList_extract, List.extract_eq_take_drop, List.getElem?_take, List.getElem?_drop, Array.getElem?_toList]
  by_cases hi : i < ys.length
  · rw [if_pos (by omega), show off + 0 + i = off + i by omega, hj i hi]
  · rw [if_neg (by omega), List.getElem?_eq_none (by omega)]
theorem Gp {T T2 E E2 : TypeId} {i : TypeInfo} {z : Value} {k n m c c2 : Nat} {ad ad2 : Option Addr} {xs ys : List Value}
  (hT : ∀ w, (underlying T).run P w = .ok (.slice E) w) (hT2 : ∀ w, (underlying T2).run P w = .ok (.slice E2) w) (hi : ∀ w, (typeInfo E).run P w = .ok i w) (hk : ∀ w, (Go.sizeOf E).run P w = .ok k w)
  (hz : ∀ w, (zeroValue E).run P w = .ok z w) (hzk : z.cells.size = k) (hk0 : k ≠ 0) (hb : 0 < i.bytes) (hroom : i.bytes * (2 * (n + m) + 192) ≤ 281474976710656)
  (hc : c < n + m) (hold : ∀ w' : World, w'.heap = w.heap → (Builtin.firstCells k n (.slice ad n c)).run P w' = .ok xs.toArray w')
  (hnw : ∀ w' : World, w'.heap = w.heap → (Builtin.firstCells k m (.slice ad2 m c2)).run P w' = .ok ys.toArray w') (ty : TypeId) :
  ∃ (c' : Nat) (w' : World), n + m ≤ c' ∧ w'.heap = w.heap ∧ w'.os = w.os ∧ w'.tape = w.tape ∧ w'.output = w.output ∧
   (Builtin.append_ #[T, T2] ty #[.slice ad n c, .slice ad2 m c2]).run P w =
    .ok (.slice (some ⟨w'.heap.size, 0, none⟩) (n + m) c') (w'.alloc (.cells (xs ++ ys ++ Zco (c' - (n + m)) z.cells.toList).toArray E (0, 0))) := by
 have hne : z.cells ≠ #[] := fun e => by rw [e] at hzk; exact hk0 hzk.symm
 have hcap := nextslicecap_le (n + m) c hc
 have h48 : ¬ (Builtin.nextslicecap (n + m) c * i.bytes > 2 ^ 48) := by
  have : Builtin.nextslicecap (n + m) c * i.bytes ≤ (2 * (n + m) + 192) * i.bytes := Nat.mul_le_mul_right _ hcap
  rw [Nat.mul_comm (2 * (n + m) + 192)] at this
  have e : (2 : Nat) ^ 48 = 281474976710656 := by decide
  omega
 refine ⟨(Question.appendCap (n + m) c E).cut (w.tape w.drawn (.appendCap (n + m) c E)), { w with drawn := w.drawn + 1 }, by simp [Question.cut], rfl, rfl, rfl, rfl, ?_⟩
 have hold' := hold { w with drawn := w.drawn + 1 } rfl
 have hnew := hnw { w with drawn := w.drawn + 1 } rfl
 generalize hq : (Question.appendCap (n + m) c E).cut (w.tape w.drawn (.appendCap (n + m) c E)) = c' at *
 have hchoose : (choose (.appendCap (n + m) c E)).run P w = .ok c' { w with drawn := w.drawn + 1 } := by
  simp [choose, Sem.run, Question.forced, hq]
 unfold Builtin.append_
 simp only [List.getElem?_toArray, List.getElem?_cons_zero, List.getElem?_cons_succ, Sem.run_bind, hT, hT2, hk, Result.andThen, Sem.run_pure, Bool.false_eq_true, if_false, Builtin.lenOf, Nat.not_le.2 hc, hi, h48, false_or]
 have h63' : ¬ (((n + m : Nat) : Int) > IntKind.i64.max ∧ i.bytes = 0) := fun h => by have := h.2; omega
 simp only [h63', if_false, Sem.run_bind, Sem.run_pure, Result.andThen, hi, h48, hchoose, run_askRoom, hold', Bool.not_false, if_true, hnew, hz, Zcp hne]
 simp [newRow, newObj, Sem.run]
 rfl
theorem Gq {T T2 E E2 : TypeId} {k n m c c2 : Nat} {b1 : Nat} {ad2 : Option Addr} {cs : Array Value} {ys : List Value} {Eb : TypeId}
  (hT : ∀ w, (underlying T).run P w = .ok (.slice E) w) (hT2 : ∀ w, (underlying T2).run P w = .ok (.slice E2) w) (hk : ∀ w, (Go.sizeOf E).run P w = .ok k w)
  (hc : n + m ≤ c) (h1 : w.heap[b1]? = some (.cells cs Eb (0, 0))) (hcs : c * k ≤ cs.size) (hlen : ys.length = m * k)
  (hnw : ∀ w' : World, w'.heap = w.heap → (Builtin.firstCells k m (.slice ad2 m c2)).run P w' = .ok ys.toArray w') (hfl : ys.all flat = true) (ty : TypeId) :
  ∃ w', (Builtin.append_ #[T, T2] ty #[.slice (some ⟨b1, 0, none⟩) n c, .slice ad2 m c2]).run P w = .ok (.slice (some ⟨b1, 0, none⟩) (n + m) c) w' ∧
   w'.os = w.os ∧ w'.tape = w.tape ∧ w'.output = w.output ∧ w'.heap.size = w.heap.size ∧
   w'.heap[b1]? = some (.cells (Qq cs (n * k) ys) Eb (0, 0)) ∧ ∀ j, j ≠ b1 → w'.heap[j]? = w.heap[j]? := by
 have hle : n * k + m * k ≤ cs.size := by
  have : (n + m) * k ≤ c * k := Nat.mul_le_mul_right k hc
  rw [Nat.add_mul] at this; omega
 obtain ⟨w', hr, e1, e2, e3, e4, e5, e6⟩ := Xb (P := P) b1 (n * k) (T := Eb) ys 0 w cs h1 (by omega) (fun u hu => Zc4 (List.all_eq_true.1 hfl u hu))
 refine ⟨w', ?_, e1, e2, e3, e4, by simpa using e5, e6⟩
 have hnew := hnw w rfl
 unfold Builtin.append_
 simp only [List.getElem?_toArray, List.getElem?_cons_zero, List.getElem?_cons_succ, Sem.run_bind, hT, hT2, hk, Result.andThen, Sem.run_pure, Bool.false_eq_true, if_false, Builtin.lenOf, hc, if_true, Bool.not_false, hnew, Zch, Nat.zero_add]
 simp only [hr]
theorem Zgc {ys : List Value} {ad2 : Option Addr} {b : Nat} {xs : List Value} {E E2 : TypeId} (h : St n S w0 L ((b, .cells xs.toArray E (0, 0)) :: σ) Φ a w) {d : Nat} {x y : Operand} {T T2 : TypeId} {ty : TypeId} {pos : String} {aft : Array Edge} {g : Option (Nat × Bool)}
  {i : TypeInfo} {z : Value} {k m m2 c2 : Nat}
  (hx : Fx.ev L x = some (.slice (some ⟨b, 0, none⟩) m m)) (hy : Fx.ev L y = some (.slice ad2 m2 c2)) (hR : Row ad2 ys ∈ Φ)  (hxs : xs.length = m * k)
  (hT : ∀ w, (underlying T).run P w = .ok (.slice E) w) (hT2 : ∀ w, (underlying T2).run P w = .ok (.slice E2) w) (hi : ∀ w, (typeInfo E).run P w = .ok i w) (hk : ∀ w, (Go.sizeOf E).run P w = .ok k w)
  (hz : ∀ w, (zeroValue E).run P w = .ok z w) (hzk : z.cells.size = k) (hk0 : k ≠ 0) (hb : 0 < i.bytes) (hys : ys.length = m2 * k) (hfl : ys.all flat = true)
  (hroom : i.bytes * (2 * (m + m2) + 192) ≤ 281474976710656) (hd : d < n)
  (kk : ∀ v' o' a' w', GrowO k E v' (m + m2) (xs ++ ys) o' → St n S w0 ((d, v') :: L) (o' ++ σ) Φ a' w' → K a' w') :
  (Oper.mk (some d) (.call ⟨.builtin .append, #[x, y], #[T, T2]⟩) ty pos aft g).wp P a w K Q := by
 have hnw : ∀ w' : World, w'.heap = w.heap → (Builtin.firstCells k m2 (.slice ad2 m2 c2)).run P w' = .ok ys.toArray w' := by
  obtain ⟨X, _, _, hp⟩ := h.fact hR
  exact Zcx hp hys
 have hrun : ∀ v' w1 w2, (Builtin.append_ #[T, T2] ty #[.slice (some ⟨b, 0, none⟩) m m, .slice ad2 m2 c2]).run P w1 = .ok v' w2 →
   (execOp a.eval (Oper.mk (some d) (.call ⟨.builtin .append, #[x, y], #[T, T2]⟩) ty pos aft g)).run P w1 = .ok (.value v') w2 := by
  intro v' w1 w2 h1
  have e : (#[x, y] : Array Operand).map a.eval = #[.slice (some ⟨b, 0, none⟩) m m, .slice ad2 m2 c2] := by simp [h.ev hx, h.ev hy]
  simp only [execOp, resolve, e, Sem.run_bind, Sem.run_pure, Result.andThen, invoke, Go.builtin, h1]
 have hb1 := h.own _ List.mem_cons_self
 by_cases hc : m + m2 ≤ m
 ·
  have hm2 : m2 = 0 := by omega
  subst hm2
  have hy0 : ys = [] := List.eq_nil_of_length_eq_zero (by simpa using hys)
  subst hy0
  obtain ⟨w', hr, e1, e2, e3, e4, e5, e6⟩ := Gq (P := P) (w := w) (c2 := c2) (n := m) (m := 0) hT hT2 hk hc hb1 (by simp [hxs]) hys hnw hfl ty
  refine Qm (hrun _ _ _ hr) ?_
  have h' := h.turn (σ' := (b, Obj.cells xs.toArray E (0, 0)) :: σ) Upd.head e1 e2 e3 e4 (by simpa [Qq] using e5) e6
  refine kk _ [(b, _)] _ _ ⟨by simp [hxs], .inr ⟨b, m, [], rfl, by simp [hxs], by omega, by simp; rfl⟩⟩ (by simpa using h'.put hd _)
 ·
  have hold : ∀ w' : World, w'.heap = w.heap → (Builtin.firstCells k m (.slice (some ⟨b, 0, none⟩) m m)).run P w' = .ok xs.toArray w' := by
   intro w' hw'
   rw [← hw'] at hb1
   simp only [Builtin.firstCells]
   rw [Jt hb1 (by simp [hxs])]
   congr 1
   apply Array.ext'
   simp [← hxs]
  obtain ⟨c', w', hcc, hheap, hos, htape, hout, hr⟩ := Gp (P := P) (w := w) (c2 := c2) (n := m) (m := m2) (c := m) (xs := xs) (ys := ys) (ad := some ⟨b, 0, none⟩) hT hT2 hi hk hz hzk hk0 hb hroom (by omega) hold hnw ty
  refine Qm (hrun _ _ _ hr) ?_
  have h' : St n S w0 L ((b, .cells xs.toArray E (0, 0)) :: σ) Φ a w' := by
   refine ⟨h.size, h.defers, h.val, ⟨by rw [hos]; exact h.ext.os, by rw [htape]; exact h.ext.tape, by rw [hout]; exact h.ext.output, by rw [hheap]; exact h.ext.size, fun k hk => by rw [hheap]; exact h.ext.block k hk⟩, fun p hp => by rw [hheap]; exact h.own p hp, h.new, h.nd, ?_⟩
   obtain ⟨X, h1, h2, h3, h4⟩ := h.facts
   exact ⟨X, h1, h2, by rw [hheap]; exact h3, fun R hR => R.st X X w w' (h4 R hR) (fun b _ _ => by rw [hheap]) (by rw [hheap]; exact Nat.le_refl _) (fun b hb => .inl hb)⟩
  refine kk _ [(w'.heap.size, .cells (xs ++ ys ++ Zco (c' - (m + m2)) z.cells.toList).toArray E (0, 0))] _ _ ⟨by simp [hxs, hys, Nat.add_mul], .inr ⟨w'.heap.size, c', Zco (c' - (m + m2)) z.cells.toList, rfl, ?_, hcc, rfl⟩⟩ ((((h'.drop (List.sublist_cons_self _ _)).alloc _).put hd _))
  simp only [List.length_append, hxs, hys, Vm, Array.length_toList, hzk]
  rw [← Nat.add_mul, ← Nat.add_mul]; congr 1; omega
theorem Zvj {α : Type} {enc : α → Value} {l : List α} {R : List Value} {j : Nat} (d : α) (h : j < l.length) : Qu false 1 (l.map enc ++ R).toArray j = some (enc (l.getD j d)) := by
 have h1 : (l.map enc ++ R)[j]? = (l.map enc)[j]? := List.getElem?_append_left (by simpa using h)
 simp [Qu, h1, h]
theorem Zzb {α : Type} {enc : α → Value} (l : List α) (R : List Value) (i : Nat) (y : α) (h : i < l.length) : Qq (l.map enc ++ R).toArray i [enc y] = ((l.set i y).map enc ++ R).toArray := by
 simp [Qq, List.map_set, List.set_append, h]
end Go.Fx
