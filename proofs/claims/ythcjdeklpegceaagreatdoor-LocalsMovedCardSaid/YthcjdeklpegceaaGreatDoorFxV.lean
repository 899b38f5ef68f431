/- The shelf's sort in the walk's words: a comparison by contract pays the sort's premise; the sort turns one own block. By an AI agent. -/
import Derived.Test.YthcjdeklpegceaaGreatDoorFxM
import Derived.Test.YthcjdeklpegceaaGreatDoorFxDraw
import Derived.Shelf.SlSortCmp.NoneTotal
set_option linter.unusedVariables false
set_option linter.unusedSimpArgs false
set_option linter.unusedSectionVars false
namespace Go.Fx
open Go Go.RowKit Go.Sort Go.Proofs
theorem Zv0 {w w' : World} (h : Below w.heap.size w w') (hd : w.drawn ≤ w'.drawn) : ∃ q os, w' = grow (w.drewN q) os := by
 refine ⟨w'.drawn - w.drawn, w'.heap.extract w.heap.size w'.heap.size, ?_⟩
 have hh : w'.heap = w.heap ++ w'.heap.extract w.heap.size w'.heap.size := by
  apply Array.ext_getElem?
  intro k
  rw [Array.getElem?_append]
  by_cases hk : k < w.heap.size
  · rw [if_pos hk, h.block k hk]
  ·
   rw [if_neg hk, Array.getElem?_extract]
   by_cases hk' : k < w'.heap.size
   · rw [if_pos (by omega)]; congr 1; omega
   · rw [if_neg (by omega), Array.getElem?_eq_none (by omega)]
 have h1 := h.tape; have h2 := h.os; have h3 := h.output
 cases w; cases w'
 simp only [grow, World.drewN] at *
 subst h1; subst h2; subst h3
 congr 1
 omega
section
variable {P : Program} {α : Type} [Inhabited α] {enc : α → Value} {w : World} {blk : Nat} {S : Nat → Prop} {w0 : World} {σ : List (Nat × Obj)} {Φ : List Qf}
theorem Kr (w : World) (blk off m : Nat) (dk : Array α) (os : Array Obj) (b : Nat) (hb : b < w.heap.size) (hne : b ≠ blk) : (sortWorld enc w blk off m dk os).heap[b]? = w.heap[b]? := by
 unfold sortWorld
 rw [heap_grow_old _ _ (by simpa using hb)]
 unfold putRow mapBlock
 simp only [heap_ahead]
 rw [Array.getElem?_modify, if_neg (fun e => hne e.symm)]
theorem Zcf (w : World) (blk off m : Nat) (dk : Array α) (os : Array Obj) : (sortWorld enc w blk off m dk os).heap.size = w.heap.size + os.size := by
 unfold sortWorld; simp
theorem Zy1 {g : Nat} {cb : Array Value} {cf : α → α → Int} {off size : Nat} {X : Nat → Prop} (hf : ∀ x y, Gh P g (enc x :: enc y :: cb.toList) Φ (.int .i64 (cf x y)))
  (hX : ∀ b, X b → b < w.heap.size) (hb : X blk) (hΦ : ∀ R ∈ Φ, R.p X w) : CmpLays1 P g cb enc cf blk off size w := by
 intro m os dk _ x y
 have hsz := Zcf (enc := enc) w blk off m dk os
 have hold : ∀ R ∈ Φ, R.p X (sortWorld enc w blk off m dk os) := fun R hR => R.st X X w _ (hΦ R hR)
  (fun b hb' hx => Kr w blk off m dk os b hb' (fun e => hx (e ▸ hb))) (by omega) (fun b h => .inl h)
 have h := Calls.drawn (hf x y X _ (fun b h => by have := hX b h; omega) hold) (by rintro w' ⟨v, Ψ, he, _⟩; cases he)
 have ea : (enc x :: enc y :: cb.toList).toArray = #[enc x, enc y] ++ cb := by apply Array.ext'; simp
 rw [ea] at h
 refine h.mono ?_
 rintro e w' ⟨⟨v, Ψ, he, ⟨hv, _⟩, hbl, _⟩, hd⟩
 exact ⟨by rw [he, hv], Zv0 hbl hd⟩
theorem Zm8 {T : TypeId} {l : List α} {R : List Value} (h : w.heap[blk]? = some (.cells (l.map enc ++ R).toArray T (0, 0))) : Holds enc w blk 0 l.toArray := by
 intro j hj
 have hj' : j < l.length := by simpa using hj
 refine ⟨?_, ?_⟩
 ·
  rw [cell_of w blk (0 + j) h]
  simp [hj', List.getElem?_append, getElem!_pos, hj]
 · exact Zh0 w blk (0 + j) h
theorem Zmo {l d : List α} {R : List Value} (hl : d.length = l.length) : putCells enc 0 d.toArray (l.map enc ++ R).toArray = (d.map enc ++ R).toArray := by
 unfold putCells
 apply Array.ext_getElem?
 intro k
 rw [Array.getElem?_mapIdx]
 simp only [List.getElem?_toArray, Nat.zero_le, true_and, Nat.zero_add, List.size_toArray]
 by_cases hk : k < d.length
 ·
  have hk' : k < l.length := by omega
  simp [hk, hk', List.getElem?_append, getElem!_pos]
 ·
  have hk' : ¬ k < l.length := by omega
  simp only [hk, if_false]
  rw [List.getElem?_append_right (by simp; omega), List.getElem?_append_right (by simp; omega)]
  simp [hl]
theorem Zku {T : TypeId} {l d : List α} {R : List Value} (hb : blk < w.heap.size) (h : w.heap[blk]? = some (.cells (l.map enc ++ R).toArray T (0, 0))) (hl : d.length = l.length) (m : Nat) (os : Array Obj) :
  (sortWorld enc w blk 0 m d.toArray os).heap[blk]? = some (.cells (d.map enc ++ R).toArray T (0, 0)) := by
 unfold sortWorld
 rw [heap_grow_old _ _ (by simpa using hb)]
 unfold putRow mapBlock
 simp only [heap_ahead]
 rw [Array.getElem?_modify, if_pos rfl, h]
 simp [onCells, Zmo hl]
theorem mem_sorted {T : TypeId} {l d : List α} {R : List Value} (hS : ∀ k, S k → k < w0.heap.size) (h : Mem S w0 ((blk, .cells (l.map enc ++ R).toArray T (0, 0)) :: σ) Φ w) (hl : d.length = l.length) (m : Nat) (os : Array Obj) :
  Mem S w0 ((blk, .cells (d.map enc ++ R).toArray T (0, 0)) :: σ) Φ (sortWorld enc w blk 0 m d.toArray os) := by
 have hown := h.own (blk, _) (List.mem_cons_self ..)
 have hblk : blk < w.heap.size := by
  rcases Nat.lt_or_ge blk w.heap.size with h' | h'
  · exact h'
  · simp [Array.getElem?_eq_none h'] at hown
 have hnew := h.new (blk, _) (List.mem_cons_self ..)
 have hsz := Zcf (enc := enc) w blk 0 m d.toArray os
 have lt : ∀ b o, w.heap[b]? = some o → b < w.heap.size := fun b o ho => by
  rcases Nat.lt_or_ge b w.heap.size with h' | h'
  · exact h'
  · simp [Array.getElem?_eq_none h'] at ho
 refine ⟨?_, ?_, ?_, ?_, ?_⟩
 ·
  have e := h.ext
  refine ⟨e.os, e.tape, e.output, by have := e.size; omega, fun k hk => ?_⟩
  rw [Kr w blk 0 m d.toArray os k (by have := e.size; omega) (by simp only at hnew; omega)]
  exact e.block k hk
 ·
  intro p hp
  rcases List.mem_cons.1 hp with rfl | hp
  · exact Zku hblk hown hl m os
  ·
   have ho := h.own p (List.mem_cons_of_mem _ hp)
   have hne : p.1 ≠ blk := fun e => (List.pairwise_cons.1 h.nd).1 p hp e.symm
   rw [Kr w blk 0 m d.toArray os p.1 (lt _ _ ho) hne]
   exact ho
 ·
  intro p hp
  rcases List.mem_cons.1 hp with rfl | hp
  · exact hnew
  · exact h.new p (List.mem_cons_of_mem _ hp)
 ·
  have := h.nd
  rw [List.pairwise_cons] at this ⊢
  exact this
 ·
  obtain ⟨X, h1, h2, h3, h4⟩ := h.facts
  have hbX : X blk := h2 (blk, _) (List.mem_cons_self ..)
  refine ⟨X, h1, ?_, fun b hb => by have := h3 b hb; omega, fun R hR => R.st X X w _ (h4 R hR) (fun b hb' hx => Kr w blk 0 m d.toArray os b hb' (fun e => hx (e ▸ hbX))) (by omega) (fun b h => .inl h)⟩
  intro p hp
  rcases List.mem_cons.1 hp with rfl | hp
  · exact hbX
  · exact h2 p (List.mem_cons_of_mem _ hp)
theorem Znc {ρ : Go.Shelf.Ren} (Ly : SlLaysF.n6 P ρ) (h1 : ∀ x, (enc x).oneCell' = true) (cf : α → α → Int) (hO : SWO (ltOf cf)) (hT : ∀ x y, (ltOf cf) x y = false → (ltOf cf) y x = false → x = y)
  {g : Nat} {cb : Array Value} (eg : ∀ args w, (callFunc g args).run P w = .ok (.enter g args) w) (hf : ∀ x y, Gh P g (enc x :: enc y :: cb.toList) Φ (.int .i64 (cf x y)))
  (b cap : Nat) (T : TypeId) (l : List α) (R : List Value) (hn : l.length < 4611686018427387904) :
  Znq P (ρ.f 6) [.slice (some ⟨b, 0, none⟩) l.length cap, .func (.func g) #[] cb] ((b, .cells (l.map enc ++ R).toArray T (0, 0)) :: σ) Φ
   (fun v σ' Ψ => v = .tuple #[] ∧ σ' = (b, .cells ((l.mergeSort fun x y => !(ltOf cf) y x).map enc ++ R).toArray T (0, 0)) :: σ ∧ Ψ = Φ) := by
 intro S w0 w hS hm
 obtain ⟨X, _, h2, h3, h4⟩ := hm.facts
 have hbX : X b := h2 (b, _) (List.mem_cons_self ..)
 have hown := hm.own (b, _) (List.mem_cons_self ..)
 have hsz : l.toArray.size = l.length := by simp
 have h := Any.slices_SortFunc_total Ly enc h1 cf hO g cb b 0 cap l.toArray w eg (Zy1 hf h3 hbX h4) (Zm8 hown) (h3 b hbX) (by simpa using hn) hT
 rw [hsz] at h
 refine h.mono ?_
 rintro e w' ⟨he, n, os, hw⟩
 subst hw
 exact ⟨_, _, _, he, ⟨rfl, rfl, rfl⟩, mem_sorted hS hm (by simp) n os⟩
end
#print axioms Znc
end Go.Fx
