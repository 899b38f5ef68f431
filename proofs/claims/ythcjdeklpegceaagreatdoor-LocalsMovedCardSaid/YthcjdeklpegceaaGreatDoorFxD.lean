/- A shared row behind a growing slice; the tail of a row. By an AI agent. -/
import Derived.Test.YthcjdeklpegceaaGreatDoorFxC
set_option linter.unusedVariables false
set_option linter.unusedSimpArgs false
namespace Go.Fx
open Go Go.RowKit
attribute [local irreducible] Oper.wp Code.wp wpList Fx.Head wpOp
variable {P : Program} {n : Nat} {S : Nat → Prop} {w0 w : World} {L : List (Nat × Value)} {σ σr : List (Nat × Obj)} {Φ : List Qf} {a : Act} {K : Act → World → Prop} {Q : Exit → Act → World → Prop}
theorem Zoe {T E k : Nat} (hT : ∀ w, (underlying T).run P w = .ok (.slice E) w) (hk : ∀ w, (Go.sizeOf E).run P w = .ok k w) (b off n c lo : Nat) (h1 : lo ≤ n) (w : World) :
  (Instr.sliceAt T (.slice (some ⟨b, off, none⟩) n c) (some (.int .i64 (lo : Int))) none none).run P w = .ok (.slice (some ⟨b, if c = lo then off else off + lo * k, none⟩) (n - lo) (c - lo)) w := by
 have e : ∀ j : Nat, asIntOf (.int .i64 (j : Int)) = (pure (.i64, (j : Int)) : Sem _) := fun _ => rfl
 have hl : (0 : Int) ≤ (lo : Int) ∧ (lo : Int) ≤ (n : Int) := by omega
 unfold Instr.sliceAt
 simp only [Sem.run_bind, hT, Result.andThen, Instr.slice, Instr.sliceBounds, Instr.sliceBound, e, Sem.run_pure, hl, and_self, if_true, hk, Int.toNat_natCast, Option.map_some, Za2]
 split <;> rfl
theorem Zmi {ad : Option Addr} {ys : List Value} {k m c : Nat} {X : Nat → Prop} (hR : (Row ad ys).p X w) (hy : ys.length = m * k) : ∀ w' : World, w'.heap = w.heap → (Builtin.firstCells k m (.slice ad m c)).run P w' = .ok ys.toArray w' := by
 intro w' hw'
 by_cases he : ys = []
 ·
  subst he
  cases ad with
  | none => simp [Builtin.firstCells]
  | some a => simp at hy; simp only [Builtin.firstCells]; rw [← hy]; simp [loadCells, loadCellsFrom]
 ·
  obtain ⟨b, off, cs, T, fr, rfl, hb, hc, hj⟩ := hR he
  have hpos : 0 < ys.length := List.length_pos_iff.2 he
  have hcs : off + ys.length ≤ cs.size := by
   have h1 := hj (ys.length - 1) (by omega)
   rw [List.getElem?_eq_getElem (by omega)] at h1
   obtain ⟨h2, _⟩ := Array.getElem?_eq_some_iff.1 h1
   omega
  have := Xv (P := P) w' b off (by rw [hw']; exact hc) (m * k) 0 #[] (by omega)
  simp only [Builtin.firstCells, loadCells]
  rw [this]
  congr 1
  apply Array.ext'
  apply List.ext_getElem?
  intro i
  simp only [Array.empty_append, Array.toList_extract, List.extract_eq_take_drop, List.getElem?_take, List.getElem?_drop, Array.getElem?_toList]
  by_cases hi : i < ys.length
  · rw [if_pos (by omega), show off + 0 + i = off + i by omega, hj i hi]
  · rw [if_neg (by omega), List.getElem?_eq_none (by omega)]
theorem Zg7 {T T2 E E2 : TypeId} {i : TypeInfo} {z : Value} {k n m c c2 : Nat} {ad ad2 : Option Addr} {xs ys : List Value}
  (hT : ∀ w, (underlying T).run P w = .ok (.slice E) w) (hT2 : ∀ w, (underlying T2).run P w = .ok (.slice E2) w) (hi : ∀ w, (typeInfo E).run P w = .ok i w) (hk : ∀ w, (Go.sizeOf E).run P w = .ok k w)
  (hz : ∀ w, (zeroValue E).run P w = .ok z w) (hzk : z.cells.size = k) (hk0 : k ≠ 0) (hb : 0 < i.bytes) (hroom : i.bytes * (2 * (n + m) + 192) ≤ 281474976710656)
  (hc : c < n + m) (hold : ∀ w' : World, w'.heap = w.heap → (Builtin.firstCells k n (.slice ad n c)).run P w' = .ok xs.toArray w')
  (hnw : ∀ w' : World, w'.heap = w.heap → (Builtin.firstCells k m (.slice ad2 m c2)).run P w' = .ok ys.toArray w') (ty : TypeId) :
  ∃ (c' : Nat) (w' : World), n + m ≤ c' ∧ w'.heap = w.heap ∧ w'.os = w.os ∧ w'.tape = w.tape ∧ w'.output = w.output ∧
   (Builtin.append_ #[T, T2] ty #[.slice ad n c, .slice ad2 m c2]).run P w =
    .ok (.slice (some ⟨w'.heap.size, 0, none⟩) (n + m) c') (w'.alloc (.cells (xs ++ ys ++ Zfa (c' - (n + m)) z.cells.toList).toArray E (0, 0))) := by
 have hne : z.cells ≠ #[] := fun e => by rw [e] at hzk; exact hk0 hzk.symm
 have hcap := nextslicecap_le (n + m) c hc
 have h48 : ¬ (Builtin.nextslicecap (n + m) c * i.bytes > 2 ^ 48) := by
  have : Builtin.nextslicecap (n + m) c * i.bytes ≤ (2 * (n + m) + 192) * i.bytes := Nat.mul_le_mul_right _ hcap
  rw [Nat.mul_comm (2 * (n + m) + 192)] at this
  have e : (2 : Nat) ^ 48 = 281474976710656 := by decide
  omega
 refine ⟨(Question.appendCap (n + m) c E).cut (w.tape w.drawn (.appendCap (n + m) c E)), { w with drawn := w.drawn + 1 }, by simp [Question.cut], rfl, rfl, rfl, rfl, ?_⟩
 have hold' := hold { w with drawn := w.drawn + 1 } rfl
 have hnew := hnw { w with drawn := w.drawn + 1 } rfl
 generalize hq : (Question.appendCap (n + m) c E).cut (w.tape w.drawn (.appendCap (n + m) c E)) = c' at *
 have hchoose : (choose (.appendCap (n + m) c E)).run P w = .ok c' { w with drawn := w.drawn + 1 } := by
  simp [choose, Sem.run, Question.forced, hq]
 unfold Builtin.append_
 simp only [List.getElem?_toArray, List.getElem?_cons_zero, List.getElem?_cons_succ, Sem.run_bind, hT, hT2, hk, Result.andThen, Sem.run_pure, Bool.false_eq_true, if_false, Builtin.lenOf, Nat.not_le.2 hc, hi, h48, false_or]
 have h63' : ¬ (((n + m : Nat) : Int) > IntKind.i64.max ∧ i.bytes = 0) := fun h => by have := h.2; omega
 simp only [h63', if_false, Sem.run_bind, Sem.run_pure, Result.andThen, hi, h48, hchoose, run_askRoom, hold', Bool.not_false, if_true, hnew, hz, Zdm hne]
 simp [newRow, newObj, Sem.run]
 rfl
theorem Zg8 {T T2 E E2 : TypeId} {k n m c c2 : Nat} {b1 : Nat} {ad2 : Option Addr} {cs : Array Value} {ys : List Value} {Eb : TypeId}
  (hT : ∀ w, (underlying T).run P w = .ok (.slice E) w) (hT2 : ∀ w, (underlying T2).run P w = .ok (.slice E2) w) (hk : ∀ w, (Go.sizeOf E).run P w = .ok k w)
  (hc : n + m ≤ c) (h1 : w.heap[b1]? = some (.cells cs Eb (0, 0))) (hcs : c * k ≤ cs.size) (hlen : ys.length = m * k)
  (hnw : ∀ w' : World, w'.heap = w.heap → (Builtin.firstCells k m (.slice ad2 m c2)).run P w' = .ok ys.toArray w') (hfl : ys.all flat = true) (ty : TypeId) :
  ∃ w', (Builtin.append_ #[T, T2] ty #[.slice (some ⟨b1, 0, none⟩) n c, .slice ad2 m c2]).run P w = .ok (.slice (some ⟨b1, 0, none⟩) (n + m) c) w' ∧
   w'.os = w.os ∧ w'.tape = w.tape ∧ w'.output = w.output ∧ w'.heap.size = w.heap.size ∧
   w'.heap[b1]? = some (.cells (Qc cs (n * k) ys) Eb (0, 0)) ∧ ∀ j, j ≠ b1 → w'.heap[j]? = w.heap[j]? := by
 have hle : n * k + m * k ≤ cs.size := by
  have : (n + m) * k ≤ c * k := Nat.mul_le_mul_right k hc
  rw [Nat.add_mul] at this; omega
 obtain ⟨w', hr, e1, e2, e3, e4, e5, e6⟩ := Xw (P := P) b1 (n * k) (T := Eb) ys 0 w cs h1 (by omega) (fun u hu => Zd2 (List.all_eq_true.1 hfl u hu))
 refine ⟨w', ?_, e1, e2, e3, e4, by simpa using e5, e6⟩
 have hnew := hnw w rfl
 unfold Builtin.append_
 simp only [List.getElem?_toArray, List.getElem?_cons_zero, List.getElem?_cons_succ, Sem.run_bind, hT, hT2, hk, Result.andThen, Sem.run_pure, Bool.false_eq_true, if_false, Builtin.lenOf, hc, if_true, Bool.not_false, hnew, Za2, Nat.zero_add]
 simp only [hr]
theorem Zo2 {T E N k : Nat} (hT : ∀ w, (underlying T).run P w = .ok (.array N E) w) (hk : ∀ w, (Go.sizeOf E).run P w = .ok k w) (b off j : Nat) (h : j < N) (w : World) :
  (Instr.indexAt T (.pointer (some ⟨b, off, none⟩)) (.int .i64 (j : Int))).run P w = .ok (.pointer (some ⟨b, off + j * k, none⟩)) w := by
 have e : asIntOf (.int .i64 (j : Int)) = (pure (.i64, (j : Int)) : Sem _) := rfl
 have hj : (0 : Int) ≤ (j : Int) ∧ (j : Int) < (N : Int) := by omega
 unfold Instr.indexAt
 simp only [e, Sem.run_bind, Sem.run_pure, Result.andThen, hT, Instr.sureAddr, hj, and_self, if_true, hk, Int.toNat_natCast, Za2]
end Go.Fx
