/- The shelf's sort at structs (elements of several cells) in the walk's words. By an AI agent. -/
import Derived.Test.YthcjdeklpegceaaGreatDoorFxV
import Derived.Shelf.SlSortCmp.PdqK
set_option linter.unusedVariables false
set_option linter.unusedSimpArgs false
set_option linter.unusedSectionVars false
namespace Go.Fx
open Go Go.RowKit Go.Sort Go.Proofs
section
variable {P : Program} {α : Type} [Inhabited α] {enc : α → List Value} {k : Nat} {w : World} {blk : Nat} {S : Nat → Prop} {w0 : World} {σ : List (Nat × Obj)} {Φ : List Qf}
theorem Zgk (hk : ∀ x, (enc x).length = k) (hk0 : 0 < k) (l : List α) : (flatK enc k l.toArray).toList = l.flatMap enc := by
 induction l with
 | nil => simp [flatK]
 | cons x l ih =>
  apply List.ext_getElem?
  intro t
  rw [List.flatMap_cons, List.getElem?_append]
  have hlen : (l.flatMap enc).length = l.length * k := by rw [← ih]; simp
  by_cases ht : t < (enc x).length
  ·
   rw [if_pos ht]
   have h0 : t / k = 0 := Nat.div_eq_of_lt (by rw [← hk x]; exact ht)
   have h1 : t % k = t := Nat.mod_eq_of_lt (by rw [← hk x]; exact ht)
   have h2 : t < (l.length + 1) * k := by rw [Nat.add_mul, Nat.one_mul]; have := hk x; omega
   simp only [flatK, Array.toList_map, List.getElem?_map, Array.toList_range]
   rw [List.getElem?_range (by simpa using h2), Option.map_some, h0, h1, List.getElem?_eq_getElem ht]
   simp [ht]
  ·
   rw [if_neg ht]
   have hx := hk x
   rw [← ih]
   obtain ⟨s, hs⟩ : ∃ s, t = s + k := ⟨t - k, by omega⟩
   have h0 : t / k = s / k + 1 := by rw [hs, Nat.add_div_right _ hk0]
   have h1 : t % k = s % k := by rw [hs, Nat.add_mod_right]
   rw [show t - (enc x).length = s by omega]
   simp only [flatK, Array.toList_map, List.getElem?_map, Array.toList_range, List.size_toArray, List.length_cons]
   by_cases h3 : s < l.length * k
   ·
    rw [List.getElem?_range h3, List.getElem?_range (by rw [Nat.add_mul, Nat.one_mul]; omega), Option.map_some, Option.map_some, h0, h1]
    have h4 : s / k < l.length := (Nat.div_lt_iff_lt_mul hk0).2 h3
    simp [h4]
   · rw [List.getElem?_eq_none (by rw [List.length_range, Nat.add_mul, Nat.one_mul]; omega), List.getElem?_eq_none (by rw [List.length_range]; omega)]; rfl
theorem Zy0 {g : Nat} {cb : Array Value} {cf : α → α → Int} {off size : Nat} {X : Nat → Prop} (hf : ∀ x y, Gh P g (.agg (enc x).toArray :: .agg (enc y).toArray :: cb.toList) Φ (.int .i64 (cf x y)))
  (hX : ∀ b, X b → b < w.heap.size) (hb : X blk) (hΦ : ∀ R ∈ Φ, R.p X w) : CmpLays P g cb enc k cf blk off size w := by
 intro m os dk _ x y
 show Calls P g _ (sortWorld id w blk off m (flatK enc k dk) os) _
 have hsz := Zcf (enc := id) w blk off m (flatK enc k dk) os
 have hold : ∀ R ∈ Φ, R.p X (sortWorld id w blk off m (flatK enc k dk) os) := fun R hR => R.st X X w _ (hΦ R hR)
  (fun b hb' hx => Kr (enc := id) w blk off m (flatK enc k dk) os b hb' (fun e => hx (e ▸ hb))) (by omega) (fun b h => .inl h)
 have h := Calls.drawn (hf x y X _ (fun b h => by have := hX b h; omega) hold) (by rintro w' ⟨v, Ψ, he, _⟩; cases he)
 have ea : (Value.agg (enc x).toArray :: .agg (enc y).toArray :: cb.toList).toArray = #[.agg (enc x).toArray, .agg (enc y).toArray] ++ cb := by apply Array.ext'; simp
 rw [ea] at h
 refine h.mono ?_
 rintro e w' ⟨⟨v, Ψ, he, ⟨hv, _⟩, hbl, _⟩, hd⟩
 exact ⟨by rw [he, hv], Zv0 hbl hd⟩
theorem Zq6 {ρ : Go.Shelf.Ren} (Ly : SlLaysF0.n14 P ρ) (aE : ∀ w, (isAgg (ρ.t 24)).run P w = .ok true w) (zE : ∀ w, (Go.sizeOf (ρ.t 24)).run P w = .ok k w) (hk : ∀ x, (enc x).length = k) (hk0 : 0 < k)
  (h1 : ∀ x, ∀ v ∈ enc x, v.oneCell' = true) (cf : α → α → Int) (hO : SWO (ltOf cf)) (hT : ∀ x y, (ltOf cf) x y = false → (ltOf cf) y x = false → x = y)
  {g : Nat} {cb : Array Value} (eg : ∀ args w, (callFunc g args).run P w = .ok (.enter g args) w) (hf : ∀ x y, Gh P g (.agg (enc x).toArray :: .agg (enc y).toArray :: cb.toList) Φ (.int .i64 (cf x y)))
  (b cap : Nat) (T : TypeId) (l : List α) (R : List Value) (limit : Nat) (hlim : limit < 4611686018427387904) (hn : l.length < 4611686018427387904) :
  Znq P (ρ.f 14) [.slice (some ⟨b, 0, none⟩) l.length cap, .int .i64 ((0 : Nat) : Int), .int .i64 ((l.length : Nat) : Int), .int .i64 ((limit : Nat) : Int), .func (.func g) #[] cb] ((b, .cells (l.flatMap enc ++ R).toArray T (0, 0)) :: σ) Φ
   (fun v σ' Ψ => v = .tuple #[] ∧ σ' = (b, .cells ((l.mergeSort fun x y => !(ltOf cf) y x).flatMap enc ++ R).toArray T (0, 0)) :: σ ∧ Ψ = Φ) := by
 intro S w0 w hS hm
 obtain ⟨X, _, h2, h3, h4⟩ := hm.facts
 have hbX : X b := h2 (b, _) (List.mem_cons_self ..)
 have hown := hm.own (b, _) (List.mem_cons_self ..)
 have hsz : l.toArray.size = l.length := by simp
 have hfl := Zgk hk hk0 l
 have hH : HoldsK enc k w b 0 l.toArray := by
  show Holds id w b 0 (flatK enc k l.toArray)
  have e : flatK enc k l.toArray = (l.flatMap enc).toArray := by apply Array.ext'; rw [hfl]
  rw [e]
  exact Zm8 (enc := id) (T := T) (R := R) (by simpa using hown)
 have h := AnyQ.pdqsortCmpFunc_all Ly k aE zE enc cf g cb hO b 0 cap l.toArray w eg (Zy0 hf h3 hbX h4) ⟨hk, h1, hH, h3 b hbX⟩ (l.length + 1) 0 l.length limit l.toArray w
  (by omega) rfl (SWK.start hH) (Nat.zero_le _) (by simp) (by simpa using hn) hlim (Or.inl rfl)
 rw [hsz] at h
 refine h.mono ?_
 rintro e w' ⟨he, n, os, hw⟩
 have hp := pdq_sorts (ltOf cf) hO l.toArray 0 l.length limit true true (Nat.zero_le _) (by simp) (Or.inl rfl)
 have hu := sorted_unique_holds hO hT l.toArray _ (by rw [hsz]; exact hp.1) (by rw [hsz]; exact hp.2)
 have hu' : pdq (ltOf cf) l.toArray 0 l.length limit true true = (l.mergeSort fun x y => !(ltOf cf) y x).toArray := by
  apply Array.ext'; rw [hu]
 rw [hu'] at hw
 subst hw
 have hm2 : Mem S w0 ((b, .cells ((l.flatMap enc).map id ++ R).toArray T (0, 0)) :: σ) Φ w := by rw [List.map_id]; exact hm
 have hl2 : (flatK enc k (l.mergeSort fun x y => !(ltOf cf) y x).toArray).toList.length = (l.flatMap enc).length := by
  rw [← hfl, Array.length_toList, Array.length_toList, size_flatK, size_flatK]; simp
 have hr := mem_sorted (enc := id) (d := (flatK enc k (l.mergeSort fun x y => !(ltOf cf) y x).toArray).toList) hS hm2 hl2 n os
 rw [List.map_id, Zgk hk hk0] at hr
 refine ⟨_, _, _, he, ⟨rfl, rfl, rfl⟩, ?_⟩
 have e3 : (l.mergeSort fun x y => !(ltOf cf) y x).flatMap enc = (flatK enc k (l.mergeSort fun x y => !(ltOf cf) y x).toArray).toList := (Zgk hk hk0 _).symm
 rw [show sortWorldK enc k w b 0 n (l.toArray.toList.mergeSort fun x y => !(ltOf cf) y x).toArray os = sortWorld id w b 0 n ((l.mergeSort fun x y => !(ltOf cf) y x).flatMap enc).toArray os from by
  rw [e3]; simp only [Array.toArray_toList]; rfl]
 exact hr
end
#print axioms Zq6
end Go.Fx
