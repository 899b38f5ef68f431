/- The shelf's sort in the walk's words: a comparison by contract pays the sort's premise; the sort turns one own block. By an AI agent. -/

import Derived.Test.YtmajjidkkpkhcaaGreatFxZ
import Derived.Test.YtmajjidkkpkhcaaGreatFxDraw
import Derived.Shelf.SlSortCmp.NoneTotal
set_option linter.unusedVariables false
set_option linter.unusedSimpArgs false
set_option linter.unusedSectionVars false
namespace Go.Fx
open Go Go.RowKit Go.Sort Go.Proofs
theorem grow_of {w w' : World} (h : Below w.heap.size w w') (hd : w.drawn ≤ w'.drawn) : ∃ q os, w' = grow (w.drewN q) os := by
  refine ⟨w'.drawn - w.drawn, w'.heap.extract w.heap.size w'.heap.size, ?_⟩
  have hh : w'.heap = w.heap ++ w'.heap.extract w.heap.size w'.heap.size := by
    apply Array.ext_getElem?
    intro k
    rw [Array.getElem?_append]
    by_cases hk : k < w.heap.size
    · rw [if_pos hk, h.block k hk]
    · rw [if_neg hk, Array.getElem?_extract]
      by_cases hk' : k < w'.heap.size
      · rw [if_pos (by omega)]; congr 1; omega
      · rw [if_neg (by omega), Array.getElem?_eq_none (by omega)]
  have h1 := h.tape; have h2 := h.os; have h3 := h.output
  cases w; cases w'
  simp only [grow, World.drewN] at *
  subst h1; subst h2; subst h3
  congr 1
  omega
section
variable {P : Program} {α : Type} [Inhabited α] {enc : α → Value} {w : World} {blk : Nat} {S : Nat → Prop} {w0 : World} {σ : List (Nat × Obj)} {Φ : List SPred}
theorem sliceAt_clip {T E k : Nat} (hT : ∀ w, (underlying T).run P w = .ok (.slice E) w) (hk : ∀ w, (Go.sizeOf E).run P w = .ok k w) (a : Option Addr) (n c : Nat) (h : n ≤ c) (w : World) :
    (Instr.sliceAt T (.slice a n c) none (some (.int .i64 (n : Int))) (some (.int .i64 (n : Int)))).run P w = .ok (.slice a n n) w := by
  have e : asIntOf (.int .i64 (n : Int)) = (pure (.i64, (n : Int)) : Sem _) := rfl
  have hj : (0 : Int) ≤ (n : Int) ∧ (n : Int) ≤ (c : Int) := by omega
  have hj2 : (0 : Int) ≤ (n : Int) ∧ (n : Int) ≤ (n : Int) := by omega
  have ha : (if n = 0 then a else a.map (fun x => x.add 0)) = a := by
    split
    · rfl
    · cases a <;> simp [addr_add0]
  unfold Instr.sliceAt
  simp only [Sem.run_bind, hT, Result.andThen, Instr.slice, Instr.sliceBounds, Instr.sliceBound, e, Sem.run_pure, hj, hj2, and_self, if_true, hk, Int.toNat_natCast, Nat.zero_mul, Nat.sub_zero, ha]
section
variable {n : Nat} {L : List (Nat × Value)} {a : Act} {K : Act → World → Prop} {Q : Exit → Act → World → Prop}
theorem op_appendRowB {ys : List Value} {ad2 : Option Addr} {b : Nat} {xs : List Value} {E E2 : TypeId} (h : St n S w0 L ((b, .cells xs.toArray E (0, 0)) :: σ) Φ a w) {d : Nat} {x y : Operand} {T T2 : TypeId} {ty : TypeId} {pos : String} {aft : Array Edge} {g : Option (Nat × Bool)}
    {i : TypeInfo} {z : Value} {k m m2 c2 : Nat}
    (hx : Fx.ev L x = some (.slice (some ⟨b, 0, none⟩) m m)) (hy : Fx.ev L y = some (.slice ad2 m2 c2)) (hR : Row ad2 ys ∈ Φ)  (hxs : xs.length = m * k)
    (hT : ∀ w, (underlying T).run P w = .ok (.slice E) w) (hT2 : ∀ w, (underlying T2).run P w = .ok (.slice E2) w) (hi : ∀ w, (typeInfo E).run P w = .ok i w) (hk : ∀ w, (Go.sizeOf E).run P w = .ok k w)
    (hz : ∀ w, (zeroValue E).run P w = .ok z w) (hzk : z.cells.size = k) (hk0 : k ≠ 0) (hb : 0 < i.bytes) (hys : ys.length = m2 * k) (hfl : ys.all flat = true)
    (hroom : i.bytes * (2 * (m + m2) + 192) ≤ 281474976710656) (hd : d < n)
    (kk : ∀ b' c' R a' w', m + m2 ≤ c' → St n S w0 ((d, .slice (some ⟨b', 0, none⟩) (m + m2) c') :: L) ((b', .cells (xs ++ ys ++ R).toArray E (0, 0)) :: σ) Φ a' w' → K a' w') :
    (Oper.mk (some d) (.call ⟨.builtin .append, #[x, y], #[T, T2]⟩) ty pos aft g).wp P a w K Q := by
  have hnw : ∀ w' : World, w'.heap = w.heap → (Builtin.firstCells k m2 (.slice ad2 m2 c2)).run P w' = .ok ys.toArray w' := by
    obtain ⟨X, _, _, hp⟩ := h.fact hR
    exact run_firstRow hp hys
  have hrun : ∀ v' w1 w2, (Builtin.append_ #[T, T2] ty #[.slice (some ⟨b, 0, none⟩) m m, .slice ad2 m2 c2]).run P w1 = .ok v' w2 →
      (execOp a.eval (Oper.mk (some d) (.call ⟨.builtin .append, #[x, y], #[T, T2]⟩) ty pos aft g)).run P w1 = .ok (.value v') w2 := by
    intro v' w1 w2 h1
    have e : (#[x, y] : Array Operand).map a.eval = #[.slice (some ⟨b, 0, none⟩) m m, .slice ad2 m2 c2] := by simp [h.ev hx, h.ev hy]
    simp only [execOp, resolve, e, Sem.run_bind, Sem.run_pure, Result.andThen, invoke, Go.builtin, h1]
  have hb1 := h.own _ List.mem_cons_self
  by_cases hc : m + m2 ≤ m
  · have hm2 : m2 = 0 := by omega
    subst hm2
    have hy0 : ys = [] := List.eq_nil_of_length_eq_zero (by simpa using hys)
    subst hy0
    obtain ⟨w', hr, e1, e2, e3, e4, e5, e6⟩ := run_append_fitsR (P := P) (w := w) (c2 := c2) (n := m) (m := 0) hT hT2 hk hc hb1 (by simp [hxs]) hys hnw hfl ty
    refine op_of_run (hrun _ _ _ hr) ?_
    have h' := h.turn (σ' := (b, Obj.cells xs.toArray E (0, 0)) :: σ) Upd.head e1 e2 e3 e4 (by simpa [setFrom] using e5) e6
    refine kk b m [] _ _ (by omega) (by simpa using h'.put hd _)
  · have hold : ∀ w' : World, w'.heap = w.heap → (Builtin.firstCells k m (.slice (some ⟨b, 0, none⟩) m m)).run P w' = .ok xs.toArray w' := by
      intro w' hw'
      rw [← hw'] at hb1
      simp only [Builtin.firstCells]
      rw [run_loadCells_blk hb1 (by simp [hxs])]
      congr 1
      apply Array.ext'
      simp [← hxs]
    obtain ⟨c', w', hcc, hheap, hos, htape, hout, hr⟩ := run_append_growR (P := P) (w := w) (c2 := c2) (n := m) (m := m2) (c := m) (xs := xs) (ys := ys) (ad := some ⟨b, 0, none⟩) hT hT2 hi hk hz hzk hk0 hb hroom (by omega) hold hnw ty
    refine op_of_run (hrun _ _ _ hr) ?_
    have h' : St n S w0 L ((b, .cells xs.toArray E (0, 0)) :: σ) Φ a w' := by
      refine ⟨h.size, h.defers, h.val, ⟨by rw [hos]; exact h.ext.os, by rw [htape]; exact h.ext.tape, by rw [hout]; exact h.ext.output, by rw [hheap]; exact h.ext.size, fun k hk => by rw [hheap]; exact h.ext.block k hk⟩, fun p hp => by rw [hheap]; exact h.own p hp, h.new, h.nd, ?_⟩
      obtain ⟨X, h1, h2, h3, h4⟩ := h.facts
      exact ⟨X, h1, h2, by rw [hheap]; exact h3, fun R hR => R.st X X w w' (h4 R hR) (fun b _ _ => by rw [hheap]) (by rw [hheap]; exact Nat.le_refl _) (fun b hb => .inl hb)⟩
    exact kk w'.heap.size c' (reps (c' - (m + m2)) z.cells.toList) _ _ hcc (((h'.drop (List.sublist_cons_self _ _)).alloc _).put hd _)
end
theorem head_buildRow {n : Nat} {L : List (Nat × Value)} {ops : Array Oper} {H : List Nat} {Kf : Act → World → Prop} {i d : Nat} {T : TypeId} {len : Nat} {parts : Array (Nat × Operand)} {ty : TypeId} {pos : String} {aft : Array Edge} {cap : Nat} {cs : Array Value} {E : TypeId}
    (hS : ∀ k, S k → k < w0.heap.size) (ho : ops[i]? = some ⟨some d, .buildSlice T len parts, ty, pos, aft, none⟩) (hq : loudOK ops i H = true)
    (vs : List (Nat × Value)) (hp : parts.toList.map (fun p => (p.1, Fx.ev L p.2)) = vs.map (fun p => (p.1, some p.2)))
    (hr : ∀ w, (Instr.buildSlice T len vs.toArray).run P w = .ok (.slice (some ⟨w.heap.size, 0, none⟩) len cap) (w.alloc (.cells cs E (0, 0)))) (M : List Value) (hM : cs = M.toArray) (hd : d < n)
    (k : ∀ b, Head P ops n S w0 Kf H ((d, .slice (some ⟨b, 0, none⟩) len cap) :: L) σ (Row (some ⟨b, 0, none⟩) M :: Φ)) : Head P ops n S w0 Kf (i :: H) L σ Φ :=
  .inr (.inl ⟨_, ho, hq, fun a w σx hst => wpOp_none ho (op_of_run (v := .slice (some ⟨w.heap.size, 0, none⟩) len cap) (w' := w.alloc (.cells cs E (0, 0)))
    (by simp only [execOp, map_parts hst hp, Sem.run_bind, hr]; rfl)
    ⟨⟨fun _ => (Below.refl _ _).alloc (Nat.le_refl _) _, fun _ _ _ _ he => by cases he⟩, _, σ, _, rfl, ((hst.alloc _).shareAll hS M hM).put hd _, k _⟩)⟩)
theorem sortWorld_heap (w : World) (blk off m : Nat) (dk : Array α) (os : Array Obj) (b : Nat) (hb : b < w.heap.size) (hne : b ≠ blk) : (sortWorld enc w blk off m dk os).heap[b]? = w.heap[b]? := by
  unfold sortWorld
  rw [heap_grow_old _ _ (by simpa using hb)]
  unfold putRow mapBlock
  simp only [heap_ahead]
  rw [Array.getElem?_modify, if_neg (fun e => hne e.symm)]
theorem sortWorld_size (w : World) (blk off m : Nat) (dk : Array α) (os : Array Obj) : (sortWorld enc w blk off m dk os).heap.size = w.heap.size + os.size := by
  unfold sortWorld; simp
theorem lays1_of {g : Nat} {cb : Array Value} {cf : α → α → Int} {off size : Nat} {X : Nat → Prop} (hf : ∀ x y, CtrW P g (enc x :: enc y :: cb.toList) Φ (.int .i64 (cf x y)))
    (hX : ∀ b, X b → b < w.heap.size) (hb : X blk) (hΦ : ∀ R ∈ Φ, R.p X w) : CmpLays1 P g cb enc cf blk off size w := by
  intro m os dk _ x y
  have hsz := sortWorld_size (enc := enc) w blk off m dk os
  have hold : ∀ R ∈ Φ, R.p X (sortWorld enc w blk off m dk os) := fun R hR => R.st X X w _ (hΦ R hR)
    (fun b hb' hx => sortWorld_heap w blk off m dk os b hb' (fun e => hx (e ▸ hb))) (by omega) (fun b h => .inl h)
  have h := Calls.drawn (hf x y X _ (fun b h => by have := hX b h; omega) hold) (by rintro w' ⟨v, Ψ, he, _⟩; cases he)
  have ea : (enc x :: enc y :: cb.toList).toArray = #[enc x, enc y] ++ cb := by apply Array.ext'; simp
  rw [ea] at h
  refine h.mono ?_
  rintro e w' ⟨⟨v, Ψ, he, ⟨hv, _⟩, hbl, _⟩, hd⟩
  exact ⟨by rw [he, hv], grow_of hbl hd⟩
theorem holds_own {T : TypeId} {l : List α} {R : List Value} (h : w.heap[blk]? = some (.cells (l.map enc ++ R).toArray T (0, 0))) : Holds enc w blk 0 l.toArray := by
  intro j hj
  have hj' : j < l.length := by simpa using hj
  refine ⟨?_, ?_⟩
  · rw [cell_of w blk (0 + j) h]
    simp [hj', List.getElem?_append, getElem!_pos, hj]
  · exact unfrozen_of w blk (0 + j) h
theorem putCells_row {l d : List α} {R : List Value} (hl : d.length = l.length) : putCells enc 0 d.toArray (l.map enc ++ R).toArray = (d.map enc ++ R).toArray := by
  unfold putCells
  apply Array.ext_getElem?
  intro k
  rw [Array.getElem?_mapIdx]
  simp only [List.getElem?_toArray, Nat.zero_le, true_and, Nat.zero_add, List.size_toArray]
  by_cases hk : k < d.length
  · have hk' : k < l.length := by omega
    simp [hk, hk', List.getElem?_append, getElem!_pos]
  · have hk' : ¬ k < l.length := by omega
    simp only [hk, if_false]
    rw [List.getElem?_append_right (by simp; omega), List.getElem?_append_right (by simp; omega)]
    simp [hl]
theorem sortWorld_own {T : TypeId} {l d : List α} {R : List Value} (hb : blk < w.heap.size) (h : w.heap[blk]? = some (.cells (l.map enc ++ R).toArray T (0, 0))) (hl : d.length = l.length) (m : Nat) (os : Array Obj) :
    (sortWorld enc w blk 0 m d.toArray os).heap[blk]? = some (.cells (d.map enc ++ R).toArray T (0, 0)) := by
  unfold sortWorld
  rw [heap_grow_old _ _ (by simpa using hb)]
  unfold putRow mapBlock
  simp only [heap_ahead]
  rw [Array.getElem?_modify, if_pos rfl, h]
  simp [onCells, putCells_row hl]
theorem mem_sorted {T : TypeId} {l d : List α} {R : List Value} (hS : ∀ k, S k → k < w0.heap.size) (h : Mem S w0 ((blk, .cells (l.map enc ++ R).toArray T (0, 0)) :: σ) Φ w) (hl : d.length = l.length) (m : Nat) (os : Array Obj) :
    Mem S w0 ((blk, .cells (d.map enc ++ R).toArray T (0, 0)) :: σ) Φ (sortWorld enc w blk 0 m d.toArray os) := by
  have hown := h.own (blk, _) (List.mem_cons_self ..)
  have hblk : blk < w.heap.size := by
    rcases Nat.lt_or_ge blk w.heap.size with h' | h'
    · exact h'
    · simp [Array.getElem?_eq_none h'] at hown
  have hnew := h.new (blk, _) (List.mem_cons_self ..)
  have hsz := sortWorld_size (enc := enc) w blk 0 m d.toArray os
  have lt : ∀ b o, w.heap[b]? = some o → b < w.heap.size := fun b o ho => by
    rcases Nat.lt_or_ge b w.heap.size with h' | h'
    · exact h'
    · simp [Array.getElem?_eq_none h'] at ho
  refine ⟨?_, ?_, ?_, ?_, ?_⟩
  · have e := h.ext
    refine ⟨e.os, e.tape, e.output, by have := e.size; omega, fun k hk => ?_⟩
    rw [sortWorld_heap w blk 0 m d.toArray os k (by have := e.size; omega) (by simp only at hnew; omega)]
    exact e.block k hk
  · intro p hp
    rcases List.mem_cons.1 hp with rfl | hp
    · exact sortWorld_own hblk hown hl m os
    · have ho := h.own p (List.mem_cons_of_mem _ hp)
      have hne : p.1 ≠ blk := fun e => (List.pairwise_cons.1 h.nd).1 p hp e.symm
      rw [sortWorld_heap w blk 0 m d.toArray os p.1 (lt _ _ ho) hne]
      exact ho
  · intro p hp
    rcases List.mem_cons.1 hp with rfl | hp
    · exact hnew
    · exact h.new p (List.mem_cons_of_mem _ hp)
  · have := h.nd
    rw [List.pairwise_cons] at this ⊢
    exact this
  · obtain ⟨X, h1, h2, h3, h4⟩ := h.facts
    have hbX : X blk := h2 (blk, _) (List.mem_cons_self ..)
    refine ⟨X, h1, ?_, fun b hb => by have := h3 b hb; omega, fun R hR => R.st X X w _ (h4 R hR) (fun b hb' hx => sortWorld_heap w blk 0 m d.toArray os b hb' (fun e => hx (e ▸ hbX))) (by omega) (fun b h => .inl h)⟩
    intro p hp
    rcases List.mem_cons.1 hp with rfl | hp
    · exact hbX
    · exact h2 p (List.mem_cons_of_mem _ hp)
theorem ctr_sortFunc {ρ : Go.Shelf.Ren} (Ly : SlLaysF.n6 P ρ) (h1 : ∀ x, (enc x).oneCell' = true) (cf : α → α → Int) (hO : SWO (ltOf cf)) (hT : ∀ x y, (ltOf cf) x y = false → (ltOf cf) y x = false → x = y)
    {g : Nat} {cb : Array Value} (eg : ∀ args w, (callFunc g args).run P w = .ok (.enter g args) w) (hf : ∀ x y, CtrW P g (enc x :: enc y :: cb.toList) Φ (.int .i64 (cf x y)))
    (b cap : Nat) (T : TypeId) (l : List α) (R : List Value) (hn : l.length < 4611686018427387904) :
    CtrM P (ρ.f 6) [.slice (some ⟨b, 0, none⟩) l.length cap, .func (.func g) #[] cb] ((b, .cells (l.map enc ++ R).toArray T (0, 0)) :: σ) Φ
      (fun v σ' Ψ => v = .tuple #[] ∧ σ' = (b, .cells ((l.mergeSort fun x y => !(ltOf cf) y x).map enc ++ R).toArray T (0, 0)) :: σ ∧ Ψ = Φ) := by
  intro S w0 w hS hm
  obtain ⟨X, _, h2, h3, h4⟩ := hm.facts
  have hbX : X b := h2 (b, _) (List.mem_cons_self ..)
  have hown := hm.own (b, _) (List.mem_cons_self ..)
  have hsz : l.toArray.size = l.length := by simp
  have h := Any.slices_SortFunc_total Ly enc h1 cf hO g cb b 0 cap l.toArray w eg (lays1_of hf h3 hbX h4) (holds_own hown) (h3 b hbX) (by simpa using hn) hT
  rw [hsz] at h
  refine h.mono ?_
  rintro e w' ⟨he, n, os, hw⟩
  subst hw
  exact ⟨_, _, _, he, ⟨rfl, rfl, rfl⟩, mem_sorted hS hm (by simp) n os⟩
theorem ctr_sortFunc0 {ρ : Go.Shelf.Ren} (Ly : SlLaysF0.n6 P ρ) (p : Option Addr) (cap : Nat) (fv : Value) : CtrV P (ρ.f 6) [.slice p 0 cap, fv] (.tuple #[]) := by
  intro X w _ _
  refine (AnyF.slices_SortFunc_none Ly p cap fv w).mono ?_
  rintro e w' ⟨he, hw⟩
  subst hw
  exact ⟨_, [], he, ⟨rfl, rfl⟩, Below.refl _ _, by simp⟩
end
#print axioms ctr_sortFunc
end Go.Fx
