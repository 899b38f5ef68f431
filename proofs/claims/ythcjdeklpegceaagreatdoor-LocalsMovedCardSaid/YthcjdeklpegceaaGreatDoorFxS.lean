/- Slices: rows of cells that are shared (told by a fact) or the function's own; make, append. By an AI agent. -/
import Derived.Test.YthcjdeklpegceaaGreatDoorFxR
set_option linter.unusedVariables false
set_option linter.unusedSimpArgs false
set_option linter.unusedSectionVars false
namespace Go.Fx
open Go Go.RowKit
variable {ty : TypeId} {pos : String} {aft : Array Edge}
def Row (a : Option Addr) (L : List Value) : Qf where
 p X w := L ≠ [] → ∃ b off cs T fr, a = some ⟨b, off, none⟩ ∧ ¬ X b ∧ w.heap[b]? = some (.cells cs T fr) ∧ ∀ j, j < L.length → cs[off + j]? = L[j]?
 st X X' w w' h hk hs hX hne := by
  obtain ⟨b, off, cs, T, fr, ha, hb, hc, hj⟩ := h hne
  have hlt : b < w.heap.size := by
   rcases Nat.lt_or_ge b w.heap.size with h' | h'
   · exact h'
   · simp [Array.getElem?_eq_none h'] at hc
  refine ⟨b, off, cs, T, fr, ha, fun hx => ?_, by rw [hk b hlt hb]; exact hc, hj⟩
  rcases hX b hx with h1 | h1
  · exact hb h1
  · omega
section
variable {P : Program} {n : Nat} {S : Nat → Prop} {w0 : World} {L : List (Nat × Value)} {σ σ' : List (Nat × Obj)} {Φ : List Qf} {a : Act} {w : World} {K : Act → World → Prop} {Q : Exit → Act → World → Prop}
theorem St.fact (h : St n S w0 L σ Φ a w) {R : Qf} (hR : R ∈ Φ) : ∃ X : Nat → Prop, (∀ p ∈ σ, X p.1) ∧ (∀ b, X b → b < w.heap.size) ∧ R.p X w := by
 obtain ⟨X, _, h2, h3, h4⟩ := h.facts
 exact ⟨X, h2, h3, h4 R hR⟩
theorem St.row_addr (h : St n S w0 L σ Φ a w) {ad : Option Addr} {M : List Value} (hR : Row ad M ∈ Φ) (hne : M ≠ []) : ∃ b off, ad = some ⟨b, off, none⟩ := by
 obtain ⟨X, _, _, hp⟩ := h.fact hR
 obtain ⟨b, off, _, _, _, ha, _⟩ := hp hne
 exact ⟨b, off, ha⟩
theorem St.derive (h : St n S w0 L σ Φ a w) {R : Qf} (hR : ∀ X, (∀ R ∈ Φ, R.p X w) → R.p X w) : St n S w0 L σ (R :: Φ) a w :=
 { h with
  facts := by
   obtain ⟨X, h1, h2, h3, h4⟩ := h.facts
   exact ⟨X, h1, h2, h3, fun R' hR' => by
    rcases List.mem_cons.1 hR' with rfl | hR'
    · exact hR X h4
    · exact h4 R' hR'⟩ }
theorem St.factsSub (h : St n S w0 L σ Φ a w) {Φ' : List Qf} (hs : ∀ R ∈ Φ', R ∈ Φ) : St n S w0 L σ Φ' a w :=
 { h with
  facts := by
   obtain ⟨X, h1, h2, h3, h4⟩ := h.facts
   exact ⟨X, h1, h2, h3, fun R hR => h4 R (hs R hR)⟩ }
theorem St.drop (h : St n S w0 L σ Φ a w) (hs : List.Sublist σ' σ) : St n S w0 L σ' Φ a w :=
 { h with
  own := fun p hp => h.own p (hs.subset hp)
  new := fun p hp => h.new p (hs.subset hp)
  nd := h.nd.sublist hs
  facts := by
   obtain ⟨X, h1, h2, h3, h4⟩ := h.facts
   exact ⟨X, h1, fun p hp => h2 p (hs.subset hp), h3, h4⟩ }
theorem St.share {b : Nat} {cs : Array Value} {T : TypeId} {fr : Nat × Nat} (h : St n S w0 L ((b, .cells cs T fr) :: σ) Φ a w) (hS : ∀ k, S k → k < w0.heap.size) {off : Nat} {M : List Value} (hM : ∀ j, j < M.length → cs[off + j]? = M[j]?) :
  St n S w0 L σ (Row (some ⟨b, off, none⟩) M :: Φ) a w :=
 { h with
  own := fun p hp => h.own p (List.mem_cons_of_mem _ hp)
  new := fun p hp => h.new p (List.mem_cons_of_mem _ hp)
  nd := (List.pairwise_cons.1 h.nd).2
  facts := by
   obtain ⟨X, h1, h2, h3, h4⟩ := h.facts
   have hn := h.new _ List.mem_cons_self
   refine ⟨fun k => X k ∧ k ≠ b, fun k hk => ⟨h1 k hk, fun e => ?_⟩, fun p hp => ⟨h2 p (List.mem_cons_of_mem _ hp), fun e => (List.pairwise_cons.1 h.nd).1 p hp e.symm⟩, fun k hk => h3 k hk.1, fun R hR => ?_⟩
   · have := hS k hk; simp only at hn; omega
   ·
    rcases List.mem_cons.1 hR with rfl | hR
    ·
     intro _
     exact ⟨b, off, cs, T, fr, rfl, fun hk => hk.2 rfl, h.own _ List.mem_cons_self, hM⟩
    · exact R.st X _ w w (h4 R hR) (fun _ _ _ => rfl) (Nat.le_refl _) (fun k hk => .inl hk.1) }
theorem Ze1 {b off j : Nat} {M : List Value} {T : TypeId} {agg : Bool} {s : Nat} {v : Value} {X : Nat → Prop}
  (hR : (Row (some ⟨b, off, none⟩) M).p X w) (hne : j < M.length) (hagg : ∀ w, (isAgg T).run P w = .ok agg w) (hs : ∀ w, (Go.sizeOf T).run P w = .ok s w)
  (hv : Qe agg s M.toArray j = some v) (hs1 : agg = true ∨ s = 1) : (Instr.loadAt T (.pointer (some ⟨b, off + j, none⟩))).run P w = .ok v w := by
 obtain ⟨b', off', cs, T', fr, ha, _, hc, hj⟩ := hR (fun e => by subst e; simp at hne)
 cases ha
 refine Vg hc hagg hs ?_
 unfold Qe at *
 cases agg with
 | false => simp only [Bool.false_eq_true, if_false] at hv ⊢; rw [hj j hne]; simpa using hv
 | true =>
  simp only [if_true] at hv ⊢
  split at hv
  ·
   rename_i hle
   cases hv
   simp at hle
   have hcs : off + M.length ≤ cs.size := by
    have h1 := hj (M.length - 1) (by omega)
    have : (M.length - 1) < M.length := by omega
    rw [List.getElem?_eq_getElem this] at h1
    obtain ⟨h2, _⟩ := Array.getElem?_eq_some_iff.1 h1
    omega
   rw [if_pos (by omega)]
   congr 2
   apply Array.ext'
   apply List.ext_getElem?
   intro i
   simp only [Array.toList_extract, List.extract_eq_take_drop, List.getElem?_take, List.getElem?_drop]
   by_cases hi : i < s
   ·
    rw [if_pos (by omega), if_pos (by omega)]
    have := hj (j + i) (by omega)
    simp only [Array.getElem?_toList]
    rw [show off + j + i = off + (j + i) from by omega, this]
   · rw [if_neg (by omega), if_neg (by omega)]
  · cases hv
theorem Jw (h : St n S w0 L σ Φ a w) {d : Nat} {T : TypeId} {x : Operand} {g : Option (Nat × Bool)} {b off j : Nat} {M : List Value} {agg : Bool} {s : Nat} {v : Value}
  (hx : Fx.ev L x = some (.pointer (some ⟨b, off + j, none⟩))) (hm : Row (some ⟨b, off, none⟩) M ∈ Φ) (hne : j < M.length) (hagg : ∀ w, (isAgg T).run P w = .ok agg w) (hs : ∀ w, (Go.sizeOf T).run P w = .ok s w)
  (hv : Qe agg s M.toArray j = some v) (hs1 : agg = true ∨ s = 1) (hd : d < n)
  (k : ∀ a', St n S w0 ((d, v) :: L) σ Φ a' w → K a' w) : (Oper.mk (some d) (.load T x) ty pos aft g).wp P a w K Q := by
 obtain ⟨X, _, _, hp⟩ := h.fact hm
 exact Xf (v := v) (w' := w) (by
  simp only [execOp, h.ev hx, Sem.run_bind, Ze1 hp hne hagg hs hv hs1]; rfl) (k _ (h.put hd v))
theorem Zmt (h : St n S w0 L σ Φ a w) {d : Nat} {op : Op} {g : Option (Nat × Bool)} {len cap : Nat} {cs : Array Value} {E : TypeId}
  (hr : (execOp a.eval (Oper.mk (some d) op ty pos aft g)).run P w = .ok (.value (.slice (some ⟨w.heap.size, 0, none⟩) len cap)) (w.alloc (.cells cs E (0, 0)))) (hd : d < n)
  (k : ∀ b a' w', St n S w0 ((d, .slice (some ⟨b, 0, none⟩) len cap) :: L) ((b, .cells cs E (0, 0)) :: σ) Φ a' w' → K a' w') : (Oper.mk (some d) op ty pos aft g).wp P a w K Q :=
 Xf hr (k _ _ _ ((h.alloc _).put hd _))
theorem Zk6 (h : St n S w0 L σ Φ a w) {d : Nat} {T : TypeId} {len : Nat} {parts : Array (Nat × Operand)} {g : Option (Nat × Bool)} {cap : Nat} {cs : Array Value} {E : TypeId}
  (vs : List (Nat × Value)) (hp : parts.toList.map (fun p => (p.1, Fx.ev L p.2)) = vs.map (fun p => (p.1, some p.2)))
  (hr : ∀ w, (Instr.buildSlice T len vs.toArray).run P w = .ok (.slice (some ⟨w.heap.size, 0, none⟩) len cap) (w.alloc (.cells cs E (0, 0)))) (hd : d < n)
  (k : ∀ b a' w', St n S w0 ((d, .slice (some ⟨b, 0, none⟩) len cap) :: L) ((b, .cells cs E (0, 0)) :: σ) Φ a' w' → K a' w') : (Oper.mk (some d) (.buildSlice T len parts) ty pos aft g).wp P a w K Q :=
 Zmt h (by simp only [execOp, Zfo h hp, Sem.run_bind, hr]; rfl) hd k
def Zfa (m : Nat) (z : List Value) : List Value := (List.replicate m z).flatten
theorem Zbl (m : Nat) (z : List Value) : (Zfa m z).length = m * z.length := by simp [Zfa]
theorem Zp5 (z : List Value) (hz : z ≠ []) : ∀ (m j : Nat), (Zfa m z)[j]? = if j < m * z.length then z[j % z.length]? else none
 | 0, j => by simp [Zfa]
 | m + 1, j => by
  have hpos : 0 < z.length := List.length_pos_iff.2 hz
  have e : Zfa (m + 1) z = z ++ Zfa m z := by simp [Zfa, List.replicate_succ]
  rw [e, List.getElem?_append]
  split
  ·
   rename_i hj
   rw [if_pos (by rw [Nat.succ_mul]; omega), Nat.mod_eq_of_lt hj]
  ·
   rename_i hj
   rw [Zp5 z hz m, Nat.succ_mul]
   have h1 : (j - z.length) % z.length = j % z.length := by
    rw [Nat.mod_eq_sub_mod (Nat.le_of_not_lt hj)]
   rw [h1]
   by_cases h2 : j - z.length < m * z.length
   · rw [if_pos h2, if_pos (by omega)]
   · rw [if_neg h2, if_neg (by omega)]
theorem Zj9 (m : Nat) (z : Array Value) (hz : z ≠ #[]) : (Array.range (m * z.size)).map (fun j => z[j % z.size]!) = (Zfa m z.toList).toArray := by
 have hz' : z.toList ≠ [] := fun e => hz (Array.toList_eq_nil_iff.1 e)
 have hpos : 0 < z.size := by
  rcases Nat.eq_zero_or_pos z.size with h | h
  · exact absurd (Array.eq_empty_of_size_eq_zero h) hz
  · exact h
 apply Array.ext'
 apply List.ext_getElem?
 intro j
 rw [List.toList_toArray, Zp5 _ hz']
 simp only [Array.length_toList]
 by_cases hj : j < m * z.size
 ·
  have hm : j % z.size < z.size := Nat.mod_lt _ hpos
  simp [hj, hm]
 · simp [hj]
theorem run_askRoom (bytes : Nat) : (askRoom bytes).run P w = .ok () w := by
 unfold askRoom; split <;> rfl
theorem run_makeSlice {T E : TypeId} {i : TypeInfo} {z : Value} {k : Nat} (hT : ∀ w, (underlying T).run P w = .ok (.slice E) w) (hi : ∀ w, (typeInfo E).run P w = .ok i w) (hk : ∀ w, (Go.sizeOf E).run P w = .ok k w)
  (hz : ∀ w, (zeroValue E).run P w = .ok z w) (hzk : z.cells.size = k) (hk0 : k ≠ 0) {len cap : Nat} (h1 : len ≤ cap) (h2 : i.bytes * cap ≤ 281474976710656) (h3 : cap ≤ 9223372036854775807) :
  (Instr.makeSlice T (.int .i64 len) (.int .i64 cap)).run P w = .ok (.slice (some ⟨w.heap.size, 0, none⟩) len cap) (w.alloc (.cells (Zfa cap z.cells.toList).toArray E (0, 0))) := by
 have wl : IntKind.i64.wrap (len : Int) = len := by rw [IntKind.wrap_i64]; omega
 have wc : IntKind.i64.wrap (cap : Int) = cap := by rw [IntKind.wrap_i64]; omega
 have hne : z.cells ≠ #[] := fun e => by rw [e] at hzk; exact hk0 hzk.symm
 have hb : ¬ (2 ^ 48 < (i.bytes : Int) * (cap : Int)) := by
  have : ((i.bytes * cap : Nat) : Int) ≤ 281474976710656 := by omega
  rw [Int.natCast_mul] at this; omega
 have hl : ¬ (281474976710656 < (i.bytes : Int) * (cap : Int)) := by simpa using hb
 have e1 : (asInt (.int .i64 (len : Int))) = (pure (len : Int) : Sem Int) := rfl
 have e2 : (asInt (.int .i64 (cap : Int))) = (pure (cap : Int) : Sem Int) := rfl
 have hc0 : ¬ ((cap : Int) < 0) := by omega
 have hl0 : ¬ ((len : Int) < 0) := by omega
 have hlc : ¬ ((cap : Int) < (len : Int)) := by omega
 unfold Instr.makeSlice
 simp only [Sem.run_bind, hT, Result.andThen, e1, e2]
 simp only [Sem.run_bind, hi, Result.andThen, wl, wc, Sem.run_pure]
 simp only [hc0, hl, hl0, hlc, decide_false, Bool.or_self, gt_iff_lt, Int.reducePow, Bool.false_eq_true, if_false, Int.toNat_natCast]
 simp only [Sem.run_bind, run_askRoom, Result.andThen, hk, hz]
 by_cases hcap : cap = 0
 ·
  subst hcap
  simp only [Nat.zero_mul, if_true, Sem.run_pure, Result.andThen, Sem.run_bind]
  have e0 : (Array.range 0).map (fun x => (#[] : Array Value)[x % (#[] : Array Value).size]!) = (Zfa 0 z.cells.toList).toArray := by
   apply Array.ext'; simp [Zfa, Array.range]
  rw [e0]
  rfl
 ·
  have : cap * k ≠ 0 := Nat.mul_ne_zero hcap hk0
  simp only [this, if_false, Sem.run_bind, hz, Result.andThen, Sem.run_pure]
  rw [← hzk, Zj9 cap z.cells hne]
  rfl
theorem Jz (h : St n S w0 L σ Φ a w) {d : Nat} {T E : TypeId} {x y : Operand} {g : Option (Nat × Bool)} {i : TypeInfo} {z : Value} {k : Nat} {len cap : Nat}
  (hx : Fx.ev L x = some (.int .i64 len)) (hy : Fx.ev L y = some (.int .i64 cap))
  (hT : ∀ w, (underlying T).run P w = .ok (.slice E) w) (hi : ∀ w, (typeInfo E).run P w = .ok i w) (hk : ∀ w, (Go.sizeOf E).run P w = .ok k w)
  (hz : ∀ w, (zeroValue E).run P w = .ok z w) (hzk : z.cells.size = k) (hk0 : k ≠ 0) (h1 : len ≤ cap) (h2 : i.bytes * cap ≤ 281474976710656) (h3 : cap ≤ 9223372036854775807) (hd : d < n)
  (kk : ∀ b a' w', St n S w0 ((d, .slice (some ⟨b, 0, none⟩) len cap) :: L) ((b, .cells (Zfa cap z.cells.toList).toArray E (0, 0)) :: σ) Φ a' w' → K a' w') : (Oper.mk (some d) (.makeSlice T x y) ty pos aft g).wp P a w K Q :=
 Zmt h (by simp only [execOp, h.ev hx, h.ev hy, Sem.run_bind, run_makeSlice hT hi hk hz hzk hk0 h1 h2 h3]; rfl) hd kk
theorem nextslicecap_le (need c : Nat) (h : c < need) : Builtin.nextslicecap need c ≤ 2 * need + 192 := by
 have hg : ∀ (r c : Nat), c < need + (need + 768) / 4 → Builtin.growBy need r c ≤ need + (need + 768) / 4 := by
  intro r
  induction r with
  | zero => intro c hc; simp only [Builtin.growBy]; omega
  | succ r ih =>
   intro c hc
   simp only [Builtin.growBy]
   split
   · omega
   ·
    rename_i h1
    by_cases h2 : c + (c + 768) / 4 < need + (need + 768) / 4
    · exact ih _ h2
    · omega
 unfold Builtin.nextslicecap
 split
 · omega
 ·
  split
  · omega
  · have := hg 4 c (by omega); omega
theorem Yq {b m : Nat} {cs : Array Value} {T : TypeId} {fr : Nat × Nat} (h : w.heap[b]? = some (.cells cs T fr)) (hm : m ≤ cs.size) :
  (loadCells ⟨b, 0, none⟩ m).run P w = .ok (cs.extract 0 m) w := by
 have := Xv (P := P) w b 0 h m 0 #[] (by omega)
 simpa [loadCells] using this
theorem Zdm {z : Value} (hz : z.cells ≠ #[]) (m : Nat) : Builtin.zeroCells z.cells m = (Zfa m z.cells.toList).toArray := Zj9 m z.cells hz
theorem run_append_grow {T T2 E E2 : TypeId} {i : TypeInfo} {z : Value} {k n m c c2 : Nat} {ad : Option Addr} {b2 : Nat} {xs ys : List Value} {cs2 : Array Value} {Eb2 : TypeId} {fr2 : Nat × Nat}
  (hT : ∀ w, (underlying T).run P w = .ok (.slice E) w) (hT2 : ∀ w, (underlying T2).run P w = .ok (.slice E2) w) (hi : ∀ w, (typeInfo E).run P w = .ok i w) (hk : ∀ w, (Go.sizeOf E).run P w = .ok k w)
  (hz : ∀ w, (zeroValue E).run P w = .ok z w) (hzk : z.cells.size = k) (hk0 : k ≠ 0) (hb : 0 < i.bytes) (hroom : i.bytes * (2 * (n + m) + 192) ≤ 281474976710656)
  (hc : c < n + m) (hold : ∀ w' : World, w'.heap = w.heap → (Builtin.firstCells k n (.slice ad n c)).run P w' = .ok xs.toArray w')
  (h2 : w.heap[b2]? = some (.cells cs2 Eb2 fr2)) (hm2 : m * k ≤ cs2.size) (hys : cs2.extract 0 (m * k) = ys.toArray) (ty : TypeId) :
  ∃ (c' : Nat) (w' : World), n + m ≤ c' ∧ w'.heap = w.heap ∧ w'.os = w.os ∧ w'.tape = w.tape ∧ w'.output = w.output ∧
   (Builtin.append_ #[T, T2] ty #[.slice ad n c, .slice (some ⟨b2, 0, none⟩) m c2]).run P w =
    .ok (.slice (some ⟨w'.heap.size, 0, none⟩) (n + m) c') (w'.alloc (.cells (xs ++ ys ++ Zfa (c' - (n + m)) z.cells.toList).toArray E (0, 0))) := by
 have hne : z.cells ≠ #[] := fun e => by rw [e] at hzk; exact hk0 hzk.symm
 have hcap := nextslicecap_le (n + m) c hc
 have h48 : ¬ (Builtin.nextslicecap (n + m) c * i.bytes > 2 ^ 48) := by
  have : Builtin.nextslicecap (n + m) c * i.bytes ≤ (2 * (n + m) + 192) * i.bytes := Nat.mul_le_mul_right _ hcap
  rw [Nat.mul_comm (2 * (n + m) + 192)] at this
  have e : (2 : Nat) ^ 48 = 281474976710656 := by decide
  omega
 have h63 : ¬ (((n + m : Nat) : Int) > IntKind.i64.max ∧ (false = true ∨ i.bytes = 0)) := by
  rintro ⟨_, h | h⟩
  · cases h
  · omega
 refine ⟨(Question.appendCap (n + m) c E).cut (w.tape w.drawn (.appendCap (n + m) c E)), { w with drawn := w.drawn + 1 }, by simp [Question.cut], rfl, rfl, rfl, rfl, ?_⟩
 have hold' := hold { w with drawn := w.drawn + 1 } rfl
 have hnew : (Builtin.firstCells k m (.slice (some ⟨b2, 0, none⟩) m c2)).run P { w with drawn := w.drawn + 1 } = .ok ys.toArray { w with drawn := w.drawn + 1 } := by
  simp only [Builtin.firstCells]
  rw [Yq (w := { w with drawn := w.drawn + 1 }) h2 hm2, hys]
 generalize hq : (Question.appendCap (n + m) c E).cut (w.tape w.drawn (.appendCap (n + m) c E)) = c' at *
 have hchoose : (choose (.appendCap (n + m) c E)).run P w = .ok c' { w with drawn := w.drawn + 1 } := by
  simp [choose, Sem.run, Question.forced, hq]
 unfold Builtin.append_
 simp only [List.getElem?_toArray, List.getElem?_cons_zero, List.getElem?_cons_succ, Sem.run_bind, hT, hT2, hk, Result.andThen, Sem.run_pure, Bool.false_eq_true, if_false, Builtin.lenOf, Nat.not_le.2 hc, hi, h48, false_or]
 have h63' : ¬ (((n + m : Nat) : Int) > IntKind.i64.max ∧ i.bytes = 0) := fun h => h63 ⟨h.1, .inr h.2⟩
 simp only [h63', if_false, Sem.run_bind, Sem.run_pure, Result.andThen, hi, h48, hchoose, run_askRoom, hold', Bool.not_false, if_true, hnew, hz, Zdm hne]
 simp [newRow, newObj, Sem.run]
 rfl
theorem run_append_fits {T T2 E E2 : TypeId} {k n m c c2 : Nat} {b1 b2 : Nat} {cs : Array Value} {ys : List Value} {cs2 : Array Value} {Eb Eb2 : TypeId} {fr2 : Nat × Nat}
  (hT : ∀ w, (underlying T).run P w = .ok (.slice E) w) (hT2 : ∀ w, (underlying T2).run P w = .ok (.slice E2) w) (hk : ∀ w, (Go.sizeOf E).run P w = .ok k w)
  (hc : n + m ≤ c) (h1 : w.heap[b1]? = some (.cells cs Eb (0, 0))) (hcs : c * k ≤ cs.size)
  (h2 : w.heap[b2]? = some (.cells cs2 Eb2 fr2)) (hm2 : m * k ≤ cs2.size) (hys : cs2.extract 0 (m * k) = ys.toArray) (hfl : ys.all flat = true) (ty : TypeId) :
  ∃ w', (Builtin.append_ #[T, T2] ty #[.slice (some ⟨b1, 0, none⟩) n c, .slice (some ⟨b2, 0, none⟩) m c2]).run P w = .ok (.slice (some ⟨b1, 0, none⟩) (n + m) c) w' ∧
   w'.os = w.os ∧ w'.tape = w.tape ∧ w'.output = w.output ∧ w'.heap.size = w.heap.size ∧
   w'.heap[b1]? = some (.cells (Qc cs (n * k) ys) Eb (0, 0)) ∧ ∀ j, j ≠ b1 → w'.heap[j]? = w.heap[j]? := by
 have hlen : ys.length = m * k := by
  have := congrArg Array.size hys
  simp at this; omega
 have hle : n * k + m * k ≤ cs.size := by
  have : (n + m) * k ≤ c * k := Nat.mul_le_mul_right k hc
  rw [Nat.add_mul] at this; omega
 obtain ⟨w', hr, e1, e2, e3, e4, e5, e6⟩ := Xw (P := P) b1 (n * k) (T := Eb) ys 0 w cs h1 (by omega) (fun u hu => Zd2 (List.all_eq_true.1 hfl u hu))
 refine ⟨w', ?_, e1, e2, e3, e4, by simpa using e5, e6⟩
 have hnew : (Builtin.firstCells k m (.slice (some ⟨b2, 0, none⟩) m c2)).run P w = .ok ys.toArray w := by
  simp only [Builtin.firstCells]
  rw [Yq h2 hm2, hys]
 unfold Builtin.append_
 simp only [List.getElem?_toArray, List.getElem?_cons_zero, List.getElem?_cons_succ, Sem.run_bind, hT, hT2, hk, Result.andThen, Sem.run_pure, Bool.false_eq_true, if_false, Builtin.lenOf, hc, if_true, Bool.not_false, hnew, Za2, Nat.zero_add]
 simp only [hr]
def Grow (k : Nat) (E : TypeId) (v : Value) (m : Nat) (xs : List Value) (σ σ1 : List (Nat × Obj)) : Prop :=
 xs.length = m * k ∧
 ((v = .slice none 0 0 ∧ m = 0 ∧ σ = σ1) ∨
  (∃ b c R, v = .slice (some ⟨b, 0, none⟩) m c ∧ (xs ++ R).length = c * k ∧ m ≤ c ∧ σ = (b, Obj.cells (xs ++ R).toArray E (0, 0)) :: σ1))
theorem Grow.sub {k : Nat} {E : TypeId} {v : Value} {m : Nat} {xs : List Value} {σ σ1 : List (Nat × Obj)} (h : Grow k E v m xs σ σ1) : List.Sublist σ1 σ := by
 rcases h with ⟨_, ⟨_, _, rfl⟩ | ⟨b, c, R, _, _, _, rfl⟩⟩
 · exact List.Sublist.refl _
 · exact List.sublist_cons_self _ _
theorem Zab : ∀ (ys xs R : List Value), ys.length ≤ R.length → Qc (xs ++ R).toArray xs.length ys = (xs ++ ys ++ R.drop ys.length).toArray
 | [], xs, R, _ => by simp [Qc]
 | y :: ys, xs, [], h => by simp at h
 | y :: ys, xs, r :: R, h => by
  have e : ((xs ++ r :: R).toArray.setIfInBounds xs.length y) = ((xs ++ [y]) ++ R).toArray := by
   apply Array.ext'
   simp [List.set_append]
  rw [Qc, e]
  have := Zab ys (xs ++ [y]) R (by simpa using h)
  simp only [List.length_append, List.length_cons, List.length_nil] at this
  rw [show xs.length + 1 = xs.length + (0 + 1) from rfl, this]
  simp
theorem Zkc {b2 : Nat} {ys : List Value} {Eb2 : TypeId} (h : St n S w0 L ((b2, .cells ys.toArray Eb2 (0, 0)) :: σ) Φ a w) {d : Nat} {x y : Operand} {T T2 E E2 : TypeId} {g : Option (Nat × Bool)}
  {i : TypeInfo} {z : Value} {k m m2 c2 : Nat} {v : Value} {xs : List Value} {σ1 : List (Nat × Obj)}
  (hx : Fx.ev L x = some v) (hy : Fx.ev L y = some (.slice (some ⟨b2, 0, none⟩) m2 c2)) (hG : Grow k E v m xs σ σ1)
  (hT : ∀ w, (underlying T).run P w = .ok (.slice E) w) (hT2 : ∀ w, (underlying T2).run P w = .ok (.slice E2) w) (hi : ∀ w, (typeInfo E).run P w = .ok i w) (hk : ∀ w, (Go.sizeOf E).run P w = .ok k w)
  (hz : ∀ w, (zeroValue E).run P w = .ok z w) (hzk : z.cells.size = k) (hk0 : k ≠ 0) (hb : 0 < i.bytes) (hys : ys.length = m2 * k) (hfl : ys.all flat = true) (hm2 : 0 < m2)
  (hroom : i.bytes * (2 * (m + m2) + 192) ≤ 281474976710656) (hd : d < n)
  (kk : ∀ v' σ' w', Grow k E v' (m + m2) (xs ++ ys) σ' σ1 → St n S w0 ((d, v') :: L) σ' Φ (a.put (some d) v') w' → K (a.put (some d) v') w') :
  (Oper.mk (some d) (.call ⟨.builtin .append, #[x, y], #[T, T2]⟩) ty pos aft g).wp P a w K Q := by
 obtain ⟨hlen, hG⟩ := hG
 have hex : ys.toArray.extract 0 (m2 * k) = ys.toArray := by rw [← hys]; apply Array.ext'; simp
 have hrun : ∀ v v' w1 w2, (Builtin.append_ #[T, T2] ty #[v, .slice (some ⟨b2, 0, none⟩) m2 c2]).run P w1 = .ok v' w2 →
   a.eval x = v → (execOp a.eval (Oper.mk (some d) (.call ⟨.builtin .append, #[x, y], #[T, T2]⟩) ty pos aft g)).run P w1 = .ok (.value v') w2 := by
  intro v v' w1 w2 h1 h2
  have e : (#[x, y] : Array Operand).map a.eval = #[v, .slice (some ⟨b2, 0, none⟩) m2 c2] := by simp [h2, h.ev hy]
  simp only [execOp, resolve, e, Sem.run_bind, Sem.run_pure, Result.andThen, invoke, Go.builtin, h1]
 have hgrow : ∀ (ad : Option Addr) (c : Nat), v = .slice ad m c → c < m + m2 → (∀ w' : World, w'.heap = w.heap → (Builtin.firstCells k m (.slice ad m c)).run P w' = .ok xs.toArray w') → List.Sublist σ1 σ →
   (Oper.mk (some d) (.call ⟨.builtin .append, #[x, y], #[T, T2]⟩) ty pos aft g).wp P a w K Q := by
  intro ad c hv hc hold hsub
  subst hv
  obtain ⟨c', w', hcc, hheap, hos, htape, hout, hr⟩ := run_append_grow (P := P) (w := w) (c2 := c2) hT hT2 hi hk hz hzk hk0 hb hroom hc hold (h.own _ List.mem_cons_self) (by simp [hys]) hex ty
  refine Xf (hrun _ _ _ _ hr (h.ev hx)) ?_
  have h' : St n S w0 L ((b2, .cells ys.toArray Eb2 (0, 0)) :: σ) Φ a w' := by
   refine ⟨h.size, h.defers, h.val, ⟨by rw [hos]; exact h.ext.os, by rw [htape]; exact h.ext.tape, by rw [hout]; exact h.ext.output, by rw [hheap]; exact h.ext.size, fun k hk => by rw [hheap]; exact h.ext.block k hk⟩, fun p hp => by rw [hheap]; exact h.own p hp, h.new, h.nd, ?_⟩
   obtain ⟨X, h1, h2, h3, h4⟩ := h.facts
   exact ⟨X, h1, h2, by rw [hheap]; exact h3, fun R hR => R.st X X w w' (h4 R hR) (fun b _ _ => by rw [hheap]) (by rw [hheap]; exact Nat.le_refl _) (fun b hb => .inl hb)⟩
  refine kk _ _ _ ⟨by simp [hlen, hys, Nat.add_mul], .inr ⟨w'.heap.size, c', Zfa (c' - (m + m2)) z.cells.toList, rfl, ?_, hcc, rfl⟩⟩ ((((h'.drop ((hsub.trans (List.sublist_cons_self _ _)))).alloc _).put hd _))
  simp only [List.length_append, hlen, hys, Zbl, Array.length_toList, hzk]
  rw [← Nat.add_mul, ← Nat.add_mul]; congr 1; omega
 rcases hG with ⟨rfl, hm0, rfl⟩ | ⟨b, c, R, rfl, hR, hmc, rfl⟩
 ·
  subst hm0
  have hxs : xs = [] := List.eq_nil_of_length_eq_zero (by simpa using hlen)
  subst hxs
  refine hgrow none 0 rfl (by omega) (fun w' _ => ?_) (List.Sublist.refl _)
  simp [Builtin.firstCells]
 ·
  by_cases hc : m + m2 ≤ c
  ·
   have hb1 := h.own (b, Obj.cells (xs ++ R).toArray E (0, 0)) (by simp)
   obtain ⟨w', hr, e1, e2, e3, e4, e5, e6⟩ := run_append_fits (P := P) (w := w) (c2 := c2) (n := m) hT hT2 hk hc hb1 (by simp at hR ⊢; omega) (h.own _ List.mem_cons_self) (by simp [hys]) hex hfl ty
   have hle : ys.length ≤ R.length := by
    have h1 : (m + m2) * k ≤ c * k := Nat.mul_le_mul_right k hc
    rw [Nat.add_mul] at h1
    simp at hR; omega
   refine Xf (hrun _ _ _ _ hr (h.ev hx)) ?_
   rw [← hlen, Zab ys xs R hle] at e5
   have h' := h.turn (σ' := (b2, .cells ys.toArray Eb2 (0, 0)) :: (b, Obj.cells (xs ++ ys ++ R.drop ys.length).toArray E (0, 0)) :: σ1) (Upd.tail Upd.head) e1 e2 e3 e4 e5 e6
   refine kk _ _ _ ⟨by simp [hlen, hys, Nat.add_mul], .inr ⟨b, c, R.drop ys.length, rfl, ?_, hc, rfl⟩⟩ ((h'.drop (List.sublist_cons_self _ _)).put hd _)
   simp at hR ⊢; omega
  ·
   refine hgrow _ c rfl (by omega) (fun w' hw' => ?_) (List.sublist_cons_self _ _)
   have hb1 := h.own (b, Obj.cells (xs ++ R).toArray E (0, 0)) (by simp)
   rw [← hw'] at hb1
   simp only [Builtin.firstCells]
   rw [Yq hb1 (by simp [hlen])]
   congr 1
   apply Array.ext'
   simp [hlen]
theorem Zu2 {b2 : Nat} {ys : List Value} {Eb2 : TypeId} (h : St n S w0 L ((b2, .cells ys.toArray Eb2 (0, 0)) :: σ) Φ a w) {d : Nat} {x y : Operand} {T T2 E E2 : TypeId} {g : Option (Nat × Bool)}
  {i : TypeInfo} {z : Value} {k m m2 c2 : Nat} {v : Value} {xs : List Value} {σ1 : List (Nat × Obj)}
  (hx : Fx.ev L x = some v) (hy : Fx.ev L y = some (.slice (some ⟨b2, 0, none⟩) m2 c2)) (hG : Grow k E v m xs σ σ1)
  (hT : ∀ w, (underlying T).run P w = .ok (.slice E) w) (hT2 : ∀ w, (underlying T2).run P w = .ok (.slice E2) w) (hi : ∀ w, (typeInfo E).run P w = .ok i w) (hk : ∀ w, (Go.sizeOf E).run P w = .ok k w)
  (hz : ∀ w, (zeroValue E).run P w = .ok z w) (hzk : z.cells.size = k) (hk0 : k ≠ 0) (hb : 0 < i.bytes) (hys : ys.length = m2 * k) (hfl : ys.all flat = true) (hm2 : 0 < m2)
  (hroom : i.bytes * (2 * (m + m2) + 192) ≤ 281474976710656) (hd : d < n)
  (kk : ∀ v' σ' a' w', Grow k E v' (m + m2) (xs ++ ys) σ' σ1 → St n S w0 ((d, v') :: L) σ' Φ a' w' → K a' w') :
  (Oper.mk (some d) (.call ⟨.builtin .append, #[x, y], #[T, T2]⟩) ty pos aft g).wp P a w K Q :=
 Zkc h hx hy hG hT hT2 hi hk hz hzk hk0 hb hys hfl hm2 hroom hd fun v' σ' w' hg hs => kk v' σ' _ w' hg hs
theorem Xi {T E k : Nat} (hT : ∀ w, (underlying T).run P w = .ok (.slice E) w) (hk : ∀ w, (Go.sizeOf E).run P w = .ok k w) (b off n c j : Nat) (h : j < n) (w : World) :
  (Instr.indexAt T (.slice (some ⟨b, off, none⟩) n c) (.int .i64 (j : Int))).run P w = .ok (.pointer (some ⟨b, off + j * k, none⟩)) w := by
 have e : asIntOf (.int .i64 (j : Int)) = (pure (.i64, (j : Int)) : Sem _) := rfl
 have hj : (0 : Int) ≤ (j : Int) ∧ (j : Int) < (n : Int) := by omega
 unfold Instr.indexAt
 simp only [e, Sem.run_bind, Sem.run_pure, Result.andThen, hT, hj, and_self, if_true, hk, Int.toNat_natCast, Za2, Bool.and_false]
theorem Znm (a : Addr) : a.add 0 = a := by simp [Addr.add]
theorem Zgt {T E k : Nat} (hT : ∀ w, (underlying T).run P w = .ok (.slice E) w) (hk : ∀ w, (Go.sizeOf E).run P w = .ok k w) (a : Option Addr) (n c j : Nat) (h : j ≤ c) (w : World) :
  (Instr.sliceAt T (.slice a n c) none (some (.int .i64 (j : Int))) none).run P w = .ok (.slice a j c) w := by
 have e : asIntOf (.int .i64 (j : Int)) = (pure (.i64, (j : Int)) : Sem _) := rfl
 have hj : (0 : Int) ≤ (j : Int) ∧ (j : Int) ≤ (c : Int) := by omega
 have ha : (if c = 0 then a else a.map (fun x => x.add 0)) = a := by
  split
  · rfl
  · cases a <;> simp [Znm]
 unfold Instr.sliceAt
 simp only [Sem.run_bind, hT, Result.andThen, Instr.slice, Instr.sliceBounds, Instr.sliceBound, e, Sem.run_pure, hj, and_self, if_true, hk, Int.toNat_natCast, Nat.zero_mul, Nat.sub_zero, ha]
theorem Zrz {T E k : Nat} (hT : ∀ w, (underlying T).run P w = .ok (.slice E) w) (hk : ∀ w, (Go.sizeOf E).run P w = .ok k w) (b off n c lo hi : Nat) (h1 : lo ≤ hi) (h2 : hi ≤ c) (h3 : lo < c) (w : World) :
  (Instr.sliceAt T (.slice (some ⟨b, off, none⟩) n c) (some (.int .i64 (lo : Int))) (some (.int .i64 (hi : Int))) none).run P w = .ok (.slice (some ⟨b, off + lo * k, none⟩) (hi - lo) (c - lo)) w := by
 have e : ∀ j : Nat, asIntOf (.int .i64 (j : Int)) = (pure (.i64, (j : Int)) : Sem _) := fun _ => rfl
 have hj : (0 : Int) ≤ (hi : Int) ∧ (hi : Int) ≤ (c : Int) := by omega
 have hl : (0 : Int) ≤ (lo : Int) ∧ (lo : Int) ≤ (hi : Int) := by omega
 have hne : c ≠ lo := by omega
 unfold Instr.sliceAt
 simp only [Sem.run_bind, hT, Result.andThen, Instr.slice, Instr.sliceBounds, Instr.sliceBound, e, Sem.run_pure, hj, hl, and_self, if_true, hk, Int.toNat_natCast, if_neg hne, Option.map_some, Za2]
theorem Zy {α : Type} {enc : α → Value} {l : List α} {j : Nat} (d : α) (h : j < l.length) : Qe false 1 (l.map enc).toArray j = some (enc (l.getD j d)) := by
 simp [Qe, h]
theorem Zp4 {ad : Option Addr} {M : List Value} {X : Nat → Prop} {w : World} (h : (Row ad M).p X w) (m : Nat) : (Row ad (M.take m)).p X w := by
 intro hne
 obtain ⟨b, off, cs, T, fr, ha, hb, hc, hj⟩ := h (fun e => by subst e; simp at hne)
 refine ⟨b, off, cs, T, fr, ha, hb, hc, fun j hj' => ?_⟩
 simp at hj'
 rw [hj j (by omega), List.getElem?_take, if_pos (by omega)]
theorem wrap_i64 (x : Int) (h0 : -9223372036854775808 ≤ x) (h1 : x ≤ 9223372036854775807) : IntKind.i64.wrap x = x := by rw [IntKind.wrap_i64]; omega
theorem wrap_u64 (x : Int) (h0 : 0 ≤ x) (h1 : x ≤ 18446744073709551615) : IntKind.u64.wrap x = x := by simp [IntKind.wrap, IntKind.bits, IntKind.signed]; omega
theorem wrap_u32 (x : Int) (h0 : 0 ≤ x) (h1 : x ≤ 4294967295) : IntKind.u32.wrap x = x := by simp [IntKind.wrap, IntKind.bits, IntKind.signed]; omega
theorem wrap_u8 (x : Int) (h0 : 0 ≤ x) (h1 : x ≤ 255) : IntKind.u8.wrap x = x := by simp [IntKind.wrap, IntKind.bits, IntKind.signed]; omega
theorem Zbx (x : Int) : IntKind.u64.wrap x = x % 18446744073709551616 := by simp [IntKind.wrap, IntKind.bits, IntKind.signed]
theorem Jp (x : Int) : IntKind.u32.wrap x = x % 4294967296 := by simp [IntKind.wrap, IntKind.bits, IntKind.signed]
theorem Zc0 (x : Int) : IntKind.u8.wrap x = x % 256 := by simp [IntKind.wrap, IntKind.bits, IntKind.signed]
theorem Vb {k yk : IntKind} (T : TypeId) (X Y : Operand) (x s : Nat) (hs : s ≤ k.bits) :
  (do eqGuard .shr T X Y (.int k x) (.int yk s); Go.binOp .shr T (.int k x) (.int yk s) : Sem Value).run P w = .ok (.int k ((x / 2 ^ s : Nat) : Int)) w := by
 have e : Int.fdiv (x : Int) (2 ^ s) = ((x / 2 ^ s : Nat) : Int) := by
  rw [Int.fdiv_eq_ediv_of_nonneg _ (by exact_mod_cast Nat.zero_le _)]; norm_cast
 have h0 : ¬ ((s : Int) < 0) := by omega
 simp [eqGuard, Go.binOp, Op.shift, h0, Nat.min_eq_left hs, e]
theorem Zc2 {k yk : IntKind} (T : TypeId) (X Y : Operand) (x s : Nat) (hs : s ≤ k.bits) :
  (do eqGuard .shl T X Y (.int k x) (.int yk s); Go.binOp .shl T (.int k x) (.int yk s) : Sem Value).run P w = .ok (.int k (k.wrap ((x * 2 ^ s : Nat) : Int))) w := by
 have h0 : ¬ ((s : Int) < 0) := by omega
 simp [eqGuard, Go.binOp, Op.shift, h0, Nat.min_eq_left hs]
theorem Zfi {k : IntKind} (hk : k.signed = false) (T : TypeId) (X Y : Operand) (x y : Nat) (hx : x < 2 ^ k.bits) (hy : y < 2 ^ k.bits) :
  (do eqGuard .or T X Y (.int k x) (.int k y); Go.binOp .or T (.int k x) (.int k y) : Sem Value).run P w = .ok (.int k ((x ||| y : Nat) : Int)) w := by
 have hb : (x ||| y) < 2 ^ k.bits := Nat.or_lt_two_pow hx hy
 have e : k.wrap ((BitVec.ofInt k.bits (x : Int) ||| BitVec.ofInt k.bits (y : Int)).toNat : Int) = ((x ||| y : Nat) : Int) := by
  have h1 : BitVec.ofInt k.bits (x : Int) = BitVec.ofNat k.bits x := by simp
  have h2 : BitVec.ofInt k.bits (y : Int) = BitVec.ofNat k.bits y := by simp
  rw [h1, h2, BitVec.toNat_or, BitVec.toNat_ofNat, BitVec.toNat_ofNat, Nat.mod_eq_of_lt hx, Nat.mod_eq_of_lt hy]
  unfold IntKind.wrap
  simp only [hk]
  simp
  exact_mod_cast Nat.mod_eq_of_lt hb
 simp [eqGuard, Go.binOp, Op.intBits]
 simpa using e
theorem Zia {k : IntKind} (hk : k.signed = false) (T : TypeId) (X Y : Operand) (x y : Nat) (hx : x < 2 ^ k.bits) (hy : y < 2 ^ k.bits) :
  (do eqGuard .and T X Y (.int k x) (.int k y); Go.binOp .and T (.int k x) (.int k y) : Sem Value).run P w = .ok (.int k ((x &&& y : Nat) : Int)) w := by
 have hb : (x &&& y) < 2 ^ k.bits := Nat.lt_of_le_of_lt Nat.and_le_left hx
 have e : k.wrap ((BitVec.ofInt k.bits (x : Int) &&& BitVec.ofInt k.bits (y : Int)).toNat : Int) = ((x &&& y : Nat) : Int) := by
  have h1 : BitVec.ofInt k.bits (x : Int) = BitVec.ofNat k.bits x := by simp
  have h2 : BitVec.ofInt k.bits (y : Int) = BitVec.ofNat k.bits y := by simp
  rw [h1, h2, BitVec.toNat_and, BitVec.toNat_ofNat, BitVec.toNat_ofNat, Nat.mod_eq_of_lt hx, Nat.mod_eq_of_lt hy]
  unfold IntKind.wrap
  simp only [hk]
  simp
  exact_mod_cast Nat.mod_eq_of_lt hb
 simp [eqGuard, Go.binOp, Op.intBits]
 simpa using e
theorem Zcg {k : IntKind} (T : TypeId) (X Y : Operand) (x y : Int) :
  (do eqGuard .add T X Y (.int k x) (.int k y); Go.binOp .add T (.int k x) (.int k y) : Sem Value).run P w = .ok (.int k (k.wrap (x + y))) w := by
 simp [eqGuard, Go.binOp, Op.intArith]
theorem Ki {k : IntKind} (T : TypeId) (X Y : Operand) (x y : Int) (h : k.wrap (x + y) = x + y) :
  (do eqGuard .add T X Y (.int k x) (.int k y); Go.binOp .add T (.int k x) (.int k y) : Sem Value).run P w = .ok (.int k (x + y)) w := by
 rw [Zcg, h]
theorem Zf6 {k : IntKind} (T : TypeId) (X Y : Operand) (x y : Int) :
  (do eqGuard .sub T X Y (.int k x) (.int k y); Go.binOp .sub T (.int k x) (.int k y) : Sem Value).run P w = .ok (.int k (k.wrap (x - y))) w := by
 simp [eqGuard, Go.binOp, Op.intArith]
theorem Zhh {k : IntKind} (T : TypeId) (X Y : Operand) (x y : Int) (h : k.wrap (x - y) = x - y) :
  (do eqGuard .sub T X Y (.int k x) (.int k y); Go.binOp .sub T (.int k x) (.int k y) : Sem Value).run P w = .ok (.int k (x - y)) w := by
 rw [Zf6, h]
theorem Zc3 {k : IntKind} (T : TypeId) (X Y : Operand) (x y : Int) :
  (do eqGuard .mul T X Y (.int k x) (.int k y); Go.binOp .mul T (.int k x) (.int k y) : Sem Value).run P w = .ok (.int k (k.wrap (x * y))) w := by
 simp [eqGuard, Go.binOp, Op.intArith]
theorem Zx4 {k : IntKind} (T : TypeId) (X Y : Operand) (x y : Int) (h : k.wrap (x * y) = x * y) :
  (do eqGuard .mul T X Y (.int k x) (.int k y); Go.binOp .mul T (.int k x) (.int k y) : Sem Value).run P w = .ok (.int k (x * y)) w := by
 rw [Zc3, h]
theorem Zh6 {k : IntKind} (T : TypeId) (X Y : Operand) (x y : Int) (hy : y ≠ 0) :
  (do eqGuard .quo T X Y (.int k x) (.int k y); Go.binOp .quo T (.int k x) (.int k y) : Sem Value).run P w = .ok (.int k (k.wrap (x.tdiv y))) w := by
 simp [eqGuard, Go.binOp, Op.intDiv, hy]
theorem Xp {k : IntKind} (T : TypeId) (X Y : Operand) (x y : Int) (hy : y ≠ 0) :
  (do eqGuard .rem T X Y (.int k x) (.int k y); Go.binOp .rem T (.int k x) (.int k y) : Sem Value).run P w = .ok (.int k (x.tmod y)) w := by
 simp [eqGuard, Go.binOp, Op.intDiv, hy]
theorem Zky {k : IntKind} (T : TypeId) (X Y : Operand) (x y : Int) :
  (do eqGuard .eql T X Y (.int k x) (.int k y); Go.binOp .eql T (.int k x) (.int k y) : Sem Value).run P w = .ok (.bool (x == y)) w := by
 simp [eqGuard, Go.binOp, Op.intCmp]
theorem Qbk {k : IntKind} (T : TypeId) (X Y : Operand) (x y : Int) :
  (do eqGuard .neq T X Y (.int k x) (.int k y); Go.binOp .neq T (.int k x) (.int k y) : Sem Value).run P w = .ok (.bool (x != y)) w := by
 simp [eqGuard, Go.binOp, Op.intCmp]
theorem Zh7 {k : IntKind} (T : TypeId) (X Y : Operand) (x y : Int) :
  (do eqGuard .lss T X Y (.int k x) (.int k y); Go.binOp .lss T (.int k x) (.int k y) : Sem Value).run P w = .ok (.bool (decide (x < y))) w := by
 simp [eqGuard, Go.binOp, Op.intCmp]
theorem Qbm {k : IntKind} (T : TypeId) (X Y : Operand) (x y : Int) :
  (do eqGuard .leq T X Y (.int k x) (.int k y); Go.binOp .leq T (.int k x) (.int k y) : Sem Value).run P w = .ok (.bool (decide (x ≤ y))) w := by
 simp [eqGuard, Go.binOp, Op.intCmp]
theorem Qbn {k : IntKind} (T : TypeId) (X Y : Operand) (x y : Int) :
  (do eqGuard .gtr T X Y (.int k x) (.int k y); Go.binOp .gtr T (.int k x) (.int k y) : Sem Value).run P w = .ok (.bool (decide (x > y))) w := by
 simp [eqGuard, Go.binOp, Op.intCmp]
theorem Qbo {k : IntKind} (T : TypeId) (X Y : Operand) (x y : Int) :
  (do eqGuard .geq T X Y (.int k x) (.int k y); Go.binOp .geq T (.int k x) (.int k y) : Sem Value).run P w = .ok (.bool (decide (x ≥ y))) w := by
 simp [eqGuard, Go.binOp, Op.intCmp]
theorem Zco (s t : ByteArray) : (s.toList == t.toList) = decide (s = t) := by
 rw [ByteArray.toList_eq, ByteArray.toList_eq, Bool.eq_iff_iff, beq_iff_eq, decide_eq_true_iff]
 exact ⟨fun h => ByteArray.ext (Array.ext' h), fun h => by rw [h]⟩
theorem Xn (T : TypeId) (X Y : Operand) (s t : ByteArray) :
  (do eqGuard .eql T X Y (.string s) (.string t); Go.binOp .eql T (.string s) (.string t) : Sem Value).run P w = .ok (.bool (decide (s = t))) w := by
 rw [← Zco]
 simp only [eqGuard, Go.binOp, Op.stringOp, Sem.run_bind]
 rfl
theorem Va (T : TypeId) (X Y : Operand) (s t : ByteArray) :
  (do eqGuard .neq T X Y (.string s) (.string t); Go.binOp .neq T (.string s) (.string t) : Sem Value).run P w = .ok (.bool (!decide (s = t))) w := by
 rw [← Zco]
 simp only [eqGuard, Go.binOp, Op.stringOp, Sem.run_bind]
 rfl
theorem Zkx (T : TypeId) (X Y : Operand) (s t : ByteArray) (h : s.size + t.size ≤ 9223372036854775807) :
  (do eqGuard .add T X Y (.string s) (.string t); Go.binOp .add T (.string s) (.string t) : Sem Value).run P w = .ok (.string (s ++ t)) w := by
 have h0 : ¬ (((s.size + t.size : Nat) : Int) > IntKind.i64.max) := by simp [IntKind.max, IntKind.signed, IntKind.bits]; omega
 simp only [eqGuard, Go.binOp, Op.stringOp, Sem.run_bind, h0, if_false]
 rfl
theorem run_equalIn_bool (d : Nat) (T : TypeId) (hT : P.underlying T = some .bool) (s t : Bool) : (Op.equalIn (d + 1) T (.bool s) (.bool t)).run P w = .ok (s == t) w := by
 have h : (underlying T).run P w = .ok .bool w := by simp [underlying, program, Sem.run, hT]
 simp only [Op.equalIn, Sem.run_bind, h, Result.andThen]
 rfl
theorem Zx5 (T : TypeId) (hT : P.underlying T = some .bool) (X Y : Operand) (s t : Bool) :
  (do eqGuard .eql T X Y (.bool s) (.bool t); Go.binOp .eql T (.bool s) (.bool t) : Sem Value).run P w = .ok (.bool (s == t)) w := by
 have h' : ∀ w, (Op.equal T (.bool s) (.bool t)).run P w = .ok (s == t) w := fun w => run_equalIn_bool (w := w) 9999 T hT s t
 simp only [eqGuard, Go.binOp, Sem.run_bind, h', Result.andThen]
 rfl
theorem Zac (T : TypeId) (hT : P.underlying T = some .bool) (X Y : Operand) (s t : Bool) :
  (do eqGuard .neq T X Y (.bool s) (.bool t); Go.binOp .neq T (.bool s) (.bool t) : Sem Value).run P w = .ok (.bool (s != t)) w := by
 have h' : ∀ w, (Op.equal T (.bool s) (.bool t)).run P w = .ok (s == t) w := fun w => run_equalIn_bool (w := w) 9999 T hT s t
 simp only [eqGuard, Go.binOp, Sem.run_bind, h', Result.andThen]
 rfl
theorem Zc4 {T : TypeId} (hT : ∀ w, (underlying T).run P w = .ok .string w) (s : ByteArray) (j : Nat) (h : j < s.size) :
  (Instr.index T (.string s) (.int .i64 (j : Int))).run P w = .ok (.int .u8 ((s.data.toList.getD j 0).toNat : Int)) w := by
 have e : asIntOf (.int .i64 (j : Int)) = (pure (.i64, (j : Int)) : Sem _) := rfl
 have h0 : (0 : Int) ≤ (j : Int) := by omega
 have h1 : s[j]? = some (s.data.toList.getD j 0) := by
  rw [getElem?_pos s j h]
  have : s[j] = s.data[j] := rfl
  rw [this]
  simp [List.getD]
  rw [Array.getElem?_eq_getElem h]; rfl
 unfold Instr.index
 simp only [e, Sem.run_bind, Sem.run_pure, Result.andThen, hT, h0, if_true, Int.toNat_natCast, h1]
theorem Ziw {ops : Array Oper} {H : List Nat} {Kf : Exit → Act → World → Prop} {i d : Nat} {T : TypeId} {len : Nat} {parts : Array (Nat × Operand)} {cap : Nat} {cs : Array Value} {E : TypeId}
  (ho : ops[i]? = some ⟨some d, .buildSlice T len parts, ty, pos, aft, none⟩) (hq : Gl ops i H = true)
  (vs : List (Nat × Value)) (hp : parts.toList.map (fun p => (p.1, Fx.ev L p.2)) = vs.map (fun p => (p.1, some p.2)))
  (hr : ∀ w, (Instr.buildSlice T len vs.toArray).run P w = .ok (.slice (some ⟨w.heap.size, 0, none⟩) len cap) (w.alloc (.cells cs E (0, 0)))) (hd : d < n)
  (k : ∀ b, Head P ops n S w0 Kf H ((d, .slice (some ⟨b, 0, none⟩) len cap) :: L) ((b, .cells cs E (0, 0)) :: σ) Φ) : Head P ops n S w0 Kf (i :: H) L σ Φ :=
 .inr (.inl ⟨_, ho, hq, fun a w σx hst => Zbe ho (Xf (v := .slice (some ⟨w.heap.size, 0, none⟩) len cap) (w' := w.alloc (.cells cs E (0, 0)))
  (by simp only [execOp, Zfo hst hp, Sem.run_bind, hr]; rfl)
  ⟨⟨fun _ => (Below.refl _ _).alloc (Nat.le_refl _) _, fun _ _ _ _ he => by cases he⟩, _, (w.heap.size, .cells cs E (0, 0)) :: σ, Φ, rfl, ((hst.alloc _).perm List.perm_middle).put hd _, k _⟩)⟩)
theorem St.shareAll {b : Nat} {cs : Array Value} {T : TypeId} {fr : Nat × Nat} (h : St n S w0 L ((b, .cells cs T fr) :: σ) Φ a w) (hS : ∀ k, S k → k < w0.heap.size) (M : List Value) (hM : cs = M.toArray) :
  St n S w0 L σ (Row (some ⟨b, 0, none⟩) M :: Φ) a w := h.share hS (fun j _ => by subst hM; simp)
theorem Zc5 (m : Nat) (z : Value) : Zfa m [z] = List.replicate m z := by
 unfold Zfa
 induction m with
 | zero => rfl
 | succ m ih => simp [List.replicate_succ, ih]
theorem Vz {α : Type} {enc : α → Value} (l : List α) (i : Nat) (y : α) : Qc (l.map enc).toArray i [enc y] = ((l.set i y).map enc).toArray := by
 simp [Qc, List.map_set]
theorem Zff (a b : Nat) : Int.tdiv (a : Int) (b : Int) = ((a / b : Nat) : Int) := (Int.ofNat_tdiv a b).symm
theorem Zkt (a b : Nat) : Int.tmod (a : Int) (b : Int) = ((a % b : Nat) : Int) := (Int.ofNat_tmod a b).symm
theorem Zv {ops : Array Oper} {H : List Nat} {Kf : Exit → Act → World → Prop} {i d : Nat} {x : Operand} {T : TypeId} {b off j : Nat} {M : List Value} {agg : Bool} {s : Nat} {v : Value}
  (ho : ops[i]? = some ⟨some d, .load T x, ty, pos, aft, none⟩) (hq : Kz ops true i H = true)
  (hx : Fx.ev L x = some (.pointer (some ⟨b, off + j, none⟩))) (hm : Row (some ⟨b, off, none⟩) M ∈ Φ) (hne : j < M.length) (hagg : ∀ w, (isAgg T).run P w = .ok agg w) (hs : ∀ w, (Go.sizeOf T).run P w = .ok s w)
  (hv : Qe agg s M.toArray j = some v) (hs1 : agg = true ∨ s = 1) (hd : d < n)
  (k : Head P ops n S w0 Kf H ((d, v) :: L) σ Φ) : Head P ops n S w0 Kf (i :: H) L σ Φ :=
 .inl ⟨_, d, v, true, ho, rfl, hd, hq, fun _ _ _ hst => .inl ⟨rfl, fun w' hw => by
  obtain ⟨X, _, h3, hp⟩ := hst.fact hm
  have hp' := (Row (some ⟨b, off, none⟩) M).st X X _ w' hp (fun b hb _ => (hw rfl).block b hb) (hw rfl).size (fun b hb => .inl hb)
  simp only [execOp, hst.ev hx, Sem.run_bind, Ze1 hp' hne hagg hs hv hs1]; rfl⟩, k⟩
theorem Qk {ops : Array Oper} {H : List Nat} {Kf : Exit → Act → World → Prop} {i d jg t : Nat} {want : Bool} {x : Operand} {T : TypeId} {b off j : Nat} {M : List Value} {agg : Bool} {s : Nat} {v : Value}
  (ho : ops[i]? = some ⟨some d, .load T x, ty, pos, aft, some (jg, want)⟩) (hj : (ops[jg]?).bind (·.dst) = some t) (ht : look L t = some (.bool want)) (hq : Kz ops true i H = true)
  (hx : Fx.ev L x = some (.pointer (some ⟨b, off + j, none⟩))) (hm : Row (some ⟨b, off, none⟩) M ∈ Φ) (hne : j < M.length) (hagg : ∀ w, (isAgg T).run P w = .ok agg w) (hs : ∀ w, (Go.sizeOf T).run P w = .ok s w)
  (hv : Qe agg s M.toArray j = some v) (hs1 : agg = true ∨ s = 1) (hd : d < n)
  (k : Head P ops n S w0 Kf H ((d, v) :: L) σ Φ) : Head P ops n S w0 Kf (i :: H) L σ Φ :=
 .inl ⟨_, d, v, true, ho, rfl, hd, hq, fun _ _ _ hst => .inl ⟨by rw [Zbg hst hj ht]; simp, fun w' hw => by
  obtain ⟨X, _, h3, hp⟩ := hst.fact hm
  have hp' := (Row (some ⟨b, off, none⟩) M).st X X _ w' hp (fun b hb _ => (hw rfl).block b hb) (hw rfl).size (fun b hb => .inl hb)
  simp only [execOp, hst.ev hx, Sem.run_bind, Ze1 hp' hne hagg hs hv hs1]; rfl⟩, k⟩
def Gh (P : Program) (f : FuncId) (args : List Value) (Φ : List Qf) (v : Value) : Prop := Ctr P f args Φ (fun u Ψ => u = v ∧ Ψ = [])
theorem Yl (h : St n S w0 L σ Φ a w) {d : Nat} {f : FuncId} {args : Array Operand} {tys : Array TypeId} {g : Option (Nat × Bool)}
  {vs : List Value} {v : Value} {Φ' : List Qf} (ha : args.toList.map (Fx.ev L) = vs.map some)
  (hc : ∀ args w, (callFunc f args).run P w = .ok (.enter f args) w) (hf : Gh P f vs Φ' v) (hsub : ∀ R ∈ Φ', R ∈ Φ) (hd : d < n)
  (k : ∀ a' w', St n S w0 ((d, v) :: L) σ Φ a' w' → K a' w') : (Oper.mk (some d) (.call ⟨.value (.func f), args, tys⟩) ty pos aft g).wp P a w K Q :=
 Jd h ha hc hf hsub hd fun u Ψ a' w' hp hst => by obtain ⟨rfl, rfl⟩ := hp; exact k a' w' hst
theorem Za9 {ops : Array Oper} {H : List Nat} {Kf : Exit → Act → World → Prop} {i d : Nat} {f : FuncId} {args : Array Operand} {tys : Array TypeId} {ty : TypeId} {pos : String} {aft : Array Edge}
  {vs : List Value} {v : Value} {Φ' : List Qf}
  (ho : ops[i]? = some ⟨some d, .call ⟨.value (.func f), args, tys⟩, ty, pos, aft, none⟩) (hq : Gl ops i H = true) (ha : args.toList.map (Fx.ev L) = vs.map some)
  (hc : ∀ args w, (callFunc f args).run P w = .ok (.enter f args) w) (hf : Gh P f vs Φ' v) (hsub : ∀ R ∈ Φ', R ∈ Φ) (hd : d < n)
  (k : Head P ops n S w0 Kf H ((d, v) :: L) σ Φ) : Head P ops n S w0 Kf (i :: H) L σ Φ :=
 Xa ho hq ha hc hf hsub hd fun u Ψ hp => by obtain ⟨rfl, rfl⟩ := hp; exact k
structure Mem (S : Nat → Prop) (w0 : World) (σ : List (Nat × Obj)) (Φ : List Qf) (w : World) : Prop where
 ext : Below w0.heap.size w0 w
 own : ∀ p ∈ σ, w.heap[p.1]? = some p.2
 new : ∀ p ∈ σ, w0.heap.size ≤ p.1
 nd : σ.Pairwise (fun p q => p.1 ≠ q.1)
 facts : ∃ X : Nat → Prop, (∀ b, S b → X b) ∧ (∀ p ∈ σ, X p.1) ∧ (∀ b, X b → b < w.heap.size) ∧ ∀ R ∈ Φ, R.p X w
theorem St.mem (h : St n S w0 L σ Φ a w) : Mem S w0 σ Φ w := ⟨h.ext, h.own, h.new, h.nd, h.facts⟩
def Znq (P : Program) (f : FuncId) (args : List Value) (σ : List (Nat × Obj)) (Φ : List Qf) (post : Value → List (Nat × Obj) → List Qf → Prop) : Prop :=
 ∀ (S : Nat → Prop) (w0 w : World), (∀ k, S k → k < w0.heap.size) → Mem S w0 σ Φ w →
  Calls P f args.toArray w fun e w' => ∃ v σ' Φ', e = .returned v ∧ post v σ' Φ' ∧ Mem S w0 σ' Φ' w'
def Qc2 (S : Nat → Prop) (w0 : World) (post : Value → List (Nat × Obj) → List Qf → Prop) : Ending → World → Prop :=
 fun e w' => ∃ v σ' Φ', e = .returned v ∧ post v σ' Φ' ∧ Mem S w0 σ' Φ' w'
theorem fn_introM {f : FuncId} {fn : Func} {c : Code} {args : List Value} {post : Value → List (Nat × Obj) → List Qf → Prop} {n : Nat}
  (hf : P.funcs[f]? = some fn) (hb : fn.body = some c) (hn : fn.ntmps = n) (hl : args.length ≤ n)
  (h : ∀ S w0 a w, (∀ k, S k → k < w0.heap.size) → St n S w0 (Qas 0 args) σ Φ a w → c.wp P (bodyPost P fn (Qc2 S w0 post)) a w) : Znq P f args σ Φ post := by
 intro S w0 w hS hm
 refine calls_of_wp hf hb (h S w0 _ w hS ⟨?_, rfl, fun t v ht => ?_, hm.ext, hm.own, hm.new, hm.nd, hm.facts⟩)
 · simp [hn]; omega
 ·
  obtain ⟨_, h2⟩ := Zdx args 0 t v ht
  have hlt : t < args.length := by
   rcases Nat.lt_or_ge t args.length with h' | h'
   · exact h'
   · simp [List.getElem?_eq_none h'] at h2
  simp at h2
  rw [Array.getD_eq_getD_getElem?, Array.getElem?_append_left (by simpa using hlt)]
  simp [h2]
theorem retM (h : St n S w0 L σ Φ a w) {fn : Func} {post : Value → List (Nat × Obj) → List Qf → Prop} {v : Value} {σ' : List (Nat × Obj)} {Ψ : List Qf} (hr : (results fn a.tmps).run P w = .ok v w)
  (hp : post v σ' Ψ) (hσ : List.Sublist σ' σ) (hs : ∀ R ∈ Ψ, R ∈ Φ) : bodyPost P fn (Qc2 S w0 post) .ret a w :=
 ⟨h.defers, v, hr, v, σ', Ψ, rfl, hp, ((h.drop hσ).factsSub hs).mem⟩
theorem Ztg (h : St n S w0 L σ Φ a w) {fn : Func} {post : Value → List (Nat × Obj) → List Qf → Prop} {v : Value} {σ' : List (Nat × Obj)} {Ψ : List Qf} (hr : (results fn a.tmps).run P w = .ok v w)
  (hp : post v σ' Ψ) (hσ : List.Sublist σ' σ) (hs : ∀ R ∈ Ψ, R ∈ Φ) : bodyPost P fn (Qc2 S w0 post) .normal a w := retM (P := P) h hr hp hσ hs
theorem Zc7 (h : St n S w0 L σ Φ a w) (hS : ∀ k, S k → k < w0.heap.size) {d : Option Nat} {f : FuncId} {args : Array Operand} {tys : Array TypeId} {g : Option (Nat × Bool)}
  {vs : List Value} {σ1 : List (Nat × Obj)} {Φ' : List Qf} {post : Value → List (Nat × Obj) → List Qf → Prop} (ha : args.toList.map (Fx.ev L) = vs.map some)
  (hc : ∀ args w, (callFunc f args).run P w = .ok (.enter f args) w) (hf : Znq P f vs σ1 Φ' post) (hσ : σ.Perm σ1) (hsub : ∀ R ∈ Φ', R ∈ Φ) (hd : ∀ d', d = some d' → d' < n)
  (k : ∀ v σ' Ψ a' w', post v σ' Ψ → St n S w0 ((match d with | some d' => [(d', v)] | none => []) ++ L) σ' Ψ a' w' → K a' w') : (Oper.mk d (.call ⟨.value (.func f), args, tys⟩) ty pos aft g).wp P a w K Q := by
 have hr : (execOp a.eval (Oper.mk d (.call ⟨.value (.func f), args, tys⟩) ty pos aft g)).run P w = .ok (.enter f vs.toArray) w := by
  simp only [execOp, resolve, Zfp h ha, Sem.run_bind, Act.eval]
  simp [Deferred.ofValue, invoke, hc]
 simp only [Oper.wp, hr, Oper.upon]
 have h' : St n S w0 L σ1 Φ' a w := (h.perm hσ.symm).factsSub hsub
 refine (hf S w0 w hS h'.mem).mono ?_
 rintro e w' ⟨v, σ', Ψ, rfl, hp, hm⟩
 have h2 : St n S w0 L σ' Ψ a w' := ⟨h.size, h.defers, h.val, hm.ext, hm.own, hm.new, hm.nd, hm.facts⟩
 cases d with
 | none => exact k v σ' Ψ _ _ hp h2
 | some d => exact k v σ' Ψ _ _ hp (h2.put (hd d rfl) v)
def Zl0 (P : Program) (f : FuncId) (args : List Value) (Φ : List Qf) (post : Value → List (Nat × Obj) → Prop) : Prop :=
 ∀ (X : Nat → Prop) (w : World), (∀ b, X b → b < w.heap.size) → (∀ R ∈ Φ, R.p X w) →
  Calls P f args.toArray w fun e w' => ∃ v σn, e = .returned v ∧ post v σn ∧ Below w.heap.size w w' ∧ (∀ p ∈ σn, w.heap.size ≤ p.1 ∧ w'.heap[p.1]? = some p.2) ∧ σn.Pairwise (fun p q => p.1 ≠ q.1)
def PostO (w0 : World) (post : Value → List (Nat × Obj) → Prop) : Ending → World → Prop :=
 fun e w' => ∃ v σn, e = .returned v ∧ post v σn ∧ Below w0.heap.size w0 w' ∧ (∀ p ∈ σn, w0.heap.size ≤ p.1 ∧ w'.heap[p.1]? = some p.2) ∧ σn.Pairwise (fun p q => p.1 ≠ q.1)
theorem fn_introO {f : FuncId} {fn : Func} {c : Code} {args : List Value} {post : Value → List (Nat × Obj) → Prop} {n : Nat}
  (hf : P.funcs[f]? = some fn) (hb : fn.body = some c) (hn : fn.ntmps = n) (hl : args.length ≤ n)
  (h : ∀ S w0 a, (∀ k, S k → k < w0.heap.size) → St n S w0 (Qas 0 args) [] Φ a w0 → c.wp P (bodyPost P fn (PostO w0 post)) a w0) : Zl0 P f args Φ post := by
 intro X w hX hΦ
 refine calls_of_wp hf hb (h X w _ hX ⟨?_, rfl, fun t v ht => ?_, Below.refl _ _, (fun _ hp => nomatch hp), (fun _ hp => nomatch hp), List.Pairwise.nil, ⟨X, fun _ h => h, (fun _ hp => nomatch hp), hX, hΦ⟩⟩)
 · simp [hn]; omega
 ·
  obtain ⟨_, h2⟩ := Zdx args 0 t v ht
  have hlt : t < args.length := by
   rcases Nat.lt_or_ge t args.length with h' | h'
   · exact h'
   · simp [List.getElem?_eq_none h'] at h2
  simp at h2
  rw [Array.getD_eq_getD_getElem?, Array.getElem?_append_left (by simpa using hlt)]
  simp [h2]
theorem Zr6 (h : St n S w0 L σ Φ a w) {fn : Func} {post : Value → List (Nat × Obj) → Prop} {v : Value} {σ' : List (Nat × Obj)} (hr : (results fn a.tmps).run P w = .ok v w)
  (hp : post v σ') (hσ : List.Sublist σ' σ) : bodyPost P fn (PostO w0 post) .ret a w := by
 have h' := h.drop hσ
 exact ⟨h.defers, v, hr, v, σ', rfl, hp, h.ext, fun p hp => ⟨h'.new p hp, h'.own p hp⟩, h'.nd⟩
theorem St.calledO (h : St n S w0 L σ Φ a w) {w' : World} (hb : Below w.heap.size w w') {σn : List (Nat × Obj)} (hn : ∀ p ∈ σn, w.heap.size ≤ p.1 ∧ w'.heap[p.1]? = some p.2) (hd : σn.Pairwise (fun p q => p.1 ≠ q.1)) :
  St n S w0 L (σn ++ σ) Φ a w' where
 size := h.size
 defers := h.defers
 val := h.val
 ext := h.ext.trans (hb.mono h.ext.size)
 own := fun p hp => by
  rcases List.mem_append.1 hp with hp | hp
  · exact (hn p hp).2
  · rw [hb.block _ (h.own_lt (b := p.1) (o := p.2) hp)]; exact h.own p hp
 new := fun p hp => by
  rcases List.mem_append.1 hp with hp | hp
  · exact Nat.le_trans h.ext.size (hn p hp).1
  · exact h.new p hp
 nd := List.pairwise_append.2 ⟨hd, h.nd, fun p hp q hq => by
  have h1 := (hn p hp).1
  have h2 := h.own_lt (b := q.1) (o := q.2) hq
  omega⟩
 facts := by
  obtain ⟨X, h1, h2, h3, h4⟩ := h.facts
  refine ⟨fun b => X b ∨ ∃ p ∈ σn, p.1 = b, fun b hb => .inl (h1 b hb), fun p hp => ?_, fun b hb' => ?_, fun R hR => ?_⟩
  ·
   rcases List.mem_append.1 hp with hp | hp
   · exact .inr ⟨p, hp, rfl⟩
   · exact .inl (h2 p hp)
  ·
   rcases hb' with hb' | ⟨p, hp, rfl⟩
   · exact Nat.lt_of_lt_of_le (h3 b hb') hb.size
   ·
    have h5 := (hn p hp).2
    rcases Nat.lt_or_ge p.1 w'.heap.size with h' | h'
    · exact h'
    · simp [Array.getElem?_eq_none h'] at h5
  ·
   refine R.st X _ w w' (h4 R hR) (fun b hb' _ => hb.block b hb') hb.size (fun b hb' => ?_)
   rcases hb' with hb' | ⟨p, hp, rfl⟩
   · exact .inl hb'
   · exact .inr (hn p hp).1
theorem Zq7 (h : St n S w0 L σ Φ a w) {d : Nat} {f : FuncId} {args : Array Operand} {tys : Array TypeId} {g : Option (Nat × Bool)}
  {vs : List Value} {Φ' : List Qf} {post : Value → List (Nat × Obj) → Prop} (ha : args.toList.map (Fx.ev L) = vs.map some)
  (hc : ∀ args w, (callFunc f args).run P w = .ok (.enter f args) w) (hf : Zl0 P f vs Φ' post) (hsub : ∀ R ∈ Φ', R ∈ Φ) (hd : d < n) {K : Act → World → Prop} {Q : Exit → Act → World → Prop}
  (k : ∀ v σn w', post v σn → Ext w w' → St n S w0 ((d, v) :: L) (σn ++ σ) Φ (a.put (some d) v) w' → K (a.put (some d) v) w') : (Oper.mk (some d) (.call ⟨.value (.func f), args, tys⟩) ty pos aft g).wp P a w K Q := by
 obtain ⟨X, h1, h2, h3, h4⟩ := h.facts
 have hr : (execOp a.eval (Oper.mk (some d) (.call ⟨.value (.func f), args, tys⟩) ty pos aft g)).run P w = .ok (.enter f vs.toArray) w := by
  simp only [execOp, resolve, Zfp h ha, Sem.run_bind, Act.eval]
  simp [Deferred.ofValue, invoke, hc]
 simp only [Oper.wp, hr, Oper.upon]
 refine (hf X w h3 (fun R hR => h4 R (hsub R hR))).mono ?_
 rintro e w' ⟨v, σn, rfl, hp, hb, h5, h6⟩
 exact k v σn _ hp hb ((h.calledO hb h5 h6).put hd v)
theorem Kl (h : St n S w0 L σ Φ a w) {d : Nat} {f : FuncId} {args : Array Operand} {tys : Array TypeId} {g : Option (Nat × Bool)}
  {vs : List Value} {Φ' : List Qf} {post : Value → List (Nat × Obj) → Prop} (ha : args.toList.map (Fx.ev L) = vs.map some)
  (hc : ∀ args w, (callFunc f args).run P w = .ok (.enter f args) w) (hf : Zl0 P f vs Φ' post) (hsub : ∀ R ∈ Φ', R ∈ Φ) (hd : d < n)
  (k : ∀ v σn a' w', post v σn → St n S w0 ((d, v) :: L) (σn ++ σ) Φ a' w' → K a' w') : (Oper.mk (some d) (.call ⟨.value (.func f), args, tys⟩) ty pos aft g).wp P a w K Q :=
 Zq7 h ha hc hf hsub hd fun v σn w' hp _ hst => k v σn _ _ hp hst
theorem Zep {ops : Array Oper} {H : List Nat} {Kf : Exit → Act → World → Prop} {i d : Nat} {f : FuncId} {args : Array Operand} {tys : Array TypeId} {ty : TypeId} {pos : String} {aft : Array Edge}
  {vs : List Value} {Φ' : List Qf} {post : Value → List (Nat × Obj) → Prop}
  (ho : ops[i]? = some ⟨some d, .call ⟨.value (.func f), args, tys⟩, ty, pos, aft, none⟩) (hq : Gl ops i H = true) (ha : args.toList.map (Fx.ev L) = vs.map some)
  (hc : ∀ args w, (callFunc f args).run P w = .ok (.enter f args) w) (hf : Zl0 P f vs Φ' post) (hsub : ∀ R ∈ Φ', R ∈ Φ) (hd : d < n)
  (k : ∀ v σn, post v σn → Head P ops n S w0 Kf H ((d, v) :: L) (σn ++ σ) Φ) : Head P ops n S w0 Kf (i :: H) L σ Φ :=
 .inr (.inl ⟨_, ho, hq, fun _ _ σx hst => Zbe ho (Zq7 hst ha hc hf hsub hd fun v σn _ hp hx hst' => ⟨⟨fun _ => hx, fun _ _ _ _ he => by cases he⟩, v, σn ++ σ, Φ, rfl,
  hst'.perm (by rw [← List.append_assoc, ← List.append_assoc]; exact List.Perm.append_right σ List.perm_append_comm), k v σn hp⟩)⟩)
theorem Zf8 {ad : Option Addr} {b off : Nat} {M : List Value} {X : Nat → Prop} (hR : (Row (some ⟨b, off, none⟩) M).p X w) (hne : M ≠ []) :
  (loadCells ⟨b, off, none⟩ M.length).run P w = .ok M.toArray w := by
 obtain ⟨b', off', cs, T, fr, ha, _, hc, hj⟩ := hR hne
 cases ha
 have hle : off + M.length ≤ cs.size := by
  have h0 : M.length ≠ 0 := fun e => hne (List.eq_nil_of_length_eq_zero e)
  have := hj (M.length - 1) (by omega)
  rcases Nat.lt_or_ge (off + (M.length - 1)) cs.size with h' | h'
  · omega
  · rw [Array.getElem?_eq_none h', List.getElem?_eq_getElem (by omega)] at this; simp at this
 have := Xv (P := P) w b off hc M.length 0 #[] (by omega)
 rw [loadCells]
 simp only [Nat.add_zero] at this
 rw [this]
 congr 1
 apply Array.ext
 · simp; omega
 ·
  intro i h1 h2
  have h3 := hj i (by simpa using h2)
  simp at h1 h2 ⊢
  rw [Array.getElem?_eq_getElem (by omega), List.getElem?_eq_getElem h2] at h3
  simpa using h3
theorem Zsf (h : St n S w0 L σ Φ a w) {d : Nat} {x y : Operand} {T T2 E : TypeId} {g : Option (Nat × Bool)}
  {k m dn dc c2 b : Nat} {ad : Option Addr} {M : List Value} {cs cs' : Array Value} {Tb : TypeId} {σ' : List (Nat × Obj)}
  (hx : Fx.ev L x = some (.slice (some ⟨b, 0, none⟩) dn dc)) (hy : Fx.ev L y = some (.slice ad m c2)) (hR : Row ad M ∈ Φ) (hM : M.length = m * k)
  (hT : ∀ w, (underlying T).run P w = .ok (.slice E) w) (hk : ∀ w, (Go.sizeOf E).run P w = .ok k w) (hmd : m ≤ dn) (hk0 : k ≠ 0)
  (hset : Qc cs 0 M = cs') (hu : Upd σ b (.cells cs Tb (0, 0)) (.cells cs' Tb (0, 0)) σ') (hle : M.length ≤ cs.size) (hfl : M.all flat = true) (hd : d < n)
  (kk : ∀ a' w', St n S w0 ((d, .int .i64 m) :: L) σ' Φ a' w' → K a' w') : (Oper.mk (some d) (.call ⟨.builtin .copy, #[x, y], #[T, T2]⟩) ty pos aft g).wp P a w K Q := by
 subst hset
 obtain ⟨w', hr, e1, e2, e3, e4, e5, e6⟩ := Xw (P := P) b 0 (T := Tb) M 0 w cs (h.own _ hu.mem) (by omega) (fun u hu => Zd2 ((List.all_eq_true.1 hfl) u hu))
 have h' := h.turn hu e1 e2 e3 e4 (by simpa using e5) e6
 refine Xf (v := .int .i64 m) (w' := w') ?_ (kk _ _ (h'.put hd _))
 have e : (#[x, y] : Array Operand).map a.eval = #[.slice (some ⟨b, 0, none⟩) dn dc, .slice ad m c2] := by simp [h.ev hx, h.ev hy]
 have hfc : (Builtin.firstCells k m (.slice ad m c2)).run P w = .ok M.toArray w := by
  by_cases hne : M = []
  ·
   subst hne
   have hm0 : m = 0 := by
    rcases Nat.eq_zero_or_pos m with h0 | h0
    · exact h0
    · have := Nat.mul_pos h0 (Nat.pos_of_ne_zero hk0); simp at hM; omega
   subst hm0
   cases ad <;> simp [Builtin.firstCells, loadCells, loadCellsFrom]
  ·
   obtain ⟨X, _, _, hp⟩ := h.fact hR
   obtain ⟨b1, off, rfl⟩ := h.row_addr hR hne
   simp only [Builtin.firstCells]
   rw [← hM]
   exact Zf8 (ad := none) hp hne
 have hmin : Nat.min m dn = m := Nat.min_eq_left hmd
 simp only [execOp, resolve, e, Sem.run_bind, Sem.run_pure, Result.andThen, invoke, Go.builtin, Builtin.copy_, List.getElem?_toArray, List.getElem?_cons_zero, List.getElem?_cons_succ, hT, hk, Builtin.lenOf, hmin, hfc, hr, goInt]
theorem Zog (M : List Value) (R : List Value) (h : M.length ≤ R.length) : Qc R.toArray 0 M = (M ++ R.drop M.length).toArray := by
 have := Zab M [] R h
 simpa using this
theorem Zh9 (h : St n S w0 L σ Φ a w) {d : Option Nat} {x : Operand} {f : FuncId} {fs cs vs : List Value} {args : Array Operand} {tys : Array TypeId} {g : Option (Nat × Bool)}
  (hx : Fx.ev L x = some (.func (.func f) fs.toArray cs.toArray)) (ha : args.toList.map (Fx.ev L) = vs.map some) (hc : ∀ args w, (callFunc f args).run P w = .ok (.enter f args) w) :
  (execOp a.eval (Oper.mk d (.call ⟨.value x, args, tys⟩) ty pos aft g)).run P w = .ok (.enter f (fs ++ vs ++ cs).toArray) w := by
 simp only [execOp, resolve, Zfp h ha, Sem.run_bind, h.ev hx]
 simp [Deferred.ofValue, invoke, hc]
theorem Zqe (h : St n S w0 L σ Φ a w) {d : Nat} {x : Operand} {f : FuncId} {fs cs : List Value} {args : Array Operand} {tys : Array TypeId} {g : Option (Nat × Bool)}
  {vs : List Value} {Φ' : List Qf} {post : Value → List Qf → Prop} (hx : Fx.ev L x = some (.func (.func f) fs.toArray cs.toArray)) (ha : args.toList.map (Fx.ev L) = vs.map some)
  (hc : ∀ args w, (callFunc f args).run P w = .ok (.enter f args) w) (hf : Ctr P f (fs ++ vs ++ cs) Φ' post) (hsub : ∀ R ∈ Φ', R ∈ Φ) (hd : d < n)
  (k : ∀ v Ψ a' w', post v Ψ → St n S w0 ((d, v) :: L) σ (Ψ ++ Φ) a' w' → K a' w') : (Oper.mk (some d) (.call ⟨.value x, args, tys⟩) ty pos aft g).wp P a w K Q := by
 obtain ⟨X, h1, h2, h3, h4⟩ := h.facts
 simp only [Oper.wp, Zh9 h hx ha hc, Oper.upon]
 refine (hf X w h3 (fun R hR => h4 R (hsub R hR))).mono ?_
 rintro e w' ⟨v, Ψ, rfl, hp, hb, h5⟩
 exact k v Ψ _ _ hp ((h.called hb h1 h2 h3 h4 h5).put hd v)
theorem Zfm (h : St n S w0 L σ Φ a w) {d : Nat} {x : Operand} {f : FuncId} {fs cs : List Value} {args : Array Operand} {tys : Array TypeId} {g : Option (Nat × Bool)}
  {vs : List Value} {v : Value} (hx : Fx.ev L x = some (.func (.func f) fs.toArray cs.toArray)) (ha : args.toList.map (Fx.ev L) = vs.map some)
  (hc : ∀ args w, (callFunc f args).run P w = .ok (.enter f args) w) (hf : Xm P f (fs ++ vs ++ cs) v) (hd : d < n)
  (k : ∀ a' w', St n S w0 ((d, v) :: L) σ Φ a' w' → K a' w') : (Oper.mk (some d) (.call ⟨.value x, args, tys⟩) ty pos aft g).wp P a w K Q :=
 Zqe h hx ha hc hf (fun _ hR => nomatch hR) hd fun u Ψ a' w' hp hst => by obtain ⟨rfl, rfl⟩ := hp; exact k a' w' hst
abbrev u8s (l : List UInt8) : List Value := l.map (fun b => Value.int .u8 (b.toNat : Int))
theorem run_bytesToString {b m c : Nat} {cs : Array Value} {E : TypeId} {fr : Nat × Nat} (bs : List UInt8) (h : w.heap[b]? = some (.cells cs E fr)) (hcs : cs.extract 0 m = (u8s bs).toArray) (hm : m ≤ cs.size) :
  (Conv.bytesToString (.slice (some ⟨b, 0, none⟩) m c)).run P w = .ok (.string ⟨bs.toArray⟩) w := by
 unfold Conv.bytesToString
 simp only [Sem.run_bind, Yq h hm, hcs, Result.andThen]
 rw [show (u8s bs).toArray = (bs.toArray.map (fun b => Value.int .u8 (b.toNat : Int))) from by simp]
 have key : ∀ (f : Value → ByteArray → Sem (ForInStep ByteArray)) (_ : ∀ (b : UInt8) (acc : ByteArray) (w : World), (f (.int .u8 (b.toNat : Int)) acc).run P w = .ok (.yield (acc.push b)) w)
   (l : List UInt8) (acc : ByteArray) (w : World), ((forIn (l.map (fun b => Value.int .u8 (b.toNat : Int))) acc f) : Sem ByteArray).run P w = .ok ⟨acc.data ++ l.toArray⟩ w := by
  intro f hf l
  induction l with
  | nil => intro acc w; simp
  | cons x l ih =>
   intro acc w
   simp only [List.map_cons, List.forIn_cons, Sem.run_bind, hf, Result.andThen]
   rw [ih]
   simp [ByteArray.push]
 rw [show (bs.toArray.map (fun b => Value.int .u8 (b.toNat : Int))) = (bs.map (fun b => Value.int .u8 (b.toNat : Int))).toArray from by simp]
 rw [List.forIn_toArray, key]
 · simp only [Result.andThen, Sem.run_pure]; simp [ByteArray.empty, ByteArray.emptyWithCapacity]; try rfl
 ·
  intro b acc w
  simp
theorem Zom (h : St n S w0 L σ Φ a w) {d : Nat} {T T' E E' : TypeId} {x : Operand} {g : Option (Nat × Bool)} {v : Value} {m : Nat} {bs : List UInt8} {σ1 : List (Nat × Obj)}
  (hx : Fx.ev L x = some v) (hG : Grow 1 E' v m (u8s bs) σ σ1) (hT : ∀ w, (underlying T).run P w = .ok (.slice E) w) (hT' : ∀ w, (underlying T').run P w = .ok .string w) (hE : ∀ w, (underlying E).run P w = .ok (.int .u8) w) (hd : d < n)
  (k : ∀ a', St n S w0 ((d, .string ⟨bs.toArray⟩) :: L) σ Φ a' w → K a' w) : (Oper.mk (some d) (.convert T T' x) ty pos aft g).wp P a w K Q := by
 obtain ⟨hlen, hG⟩ := hG
 have hconv : (Conv.bytesToString v).run P w = .ok (.string ⟨bs.toArray⟩) w := by
  rcases hG with ⟨rfl, rfl, _⟩ | ⟨b, c, R, rfl, hR, _, hσ⟩
  · simp at hlen; subst hlen; rfl
  ·
   have hb := h.own (b, Obj.cells (u8s bs ++ R).toArray E' (0, 0)) (by rw [hσ]; simp)
   refine run_bytesToString bs hb ?_ (by simp at hlen ⊢; omega)
   apply Array.ext'
   simp at hlen
   simp [← hlen]
 refine Xf (v := .string ⟨bs.toArray⟩) (w' := w) ?_ (k _ (h.put hd _))
 simp only [execOp, h.ev hx, Sem.run_bind]
 have : (convert T T' v).run P w = .ok (.string ⟨bs.toArray⟩) w := by
  unfold convert
  rcases hG with ⟨rfl, _⟩ | ⟨b, c, R, rfl, _⟩ <;> simp only [Sem.run_bind, hT, hT', Result.andThen, hE, hconv]
 rw [this]; rfl
theorem Zue {k : IntKind} (hk : k.signed = false) (T : TypeId) (X Y : Operand) (x y : Nat) (hx : x < 2 ^ k.bits) (hy : y < 2 ^ k.bits) :
  (do eqGuard .xor T X Y (.int k x) (.int k y); Go.binOp .xor T (.int k x) (.int k y) : Sem Value).run P w = .ok (.int k ((x ^^^ y : Nat) : Int)) w := by
 have hb : (x ^^^ y) < 2 ^ k.bits := Nat.xor_lt_two_pow hx hy
 have e : k.wrap ((BitVec.ofInt k.bits (x : Int) ^^^ BitVec.ofInt k.bits (y : Int)).toNat : Int) = ((x ^^^ y : Nat) : Int) := by
  have h1 : BitVec.ofInt k.bits (x : Int) = BitVec.ofNat k.bits x := by simp
  have h2 : BitVec.ofInt k.bits (y : Int) = BitVec.ofNat k.bits y := by simp
  rw [h1, h2, BitVec.toNat_xor, BitVec.toNat_ofNat, BitVec.toNat_ofNat, Nat.mod_eq_of_lt hx, Nat.mod_eq_of_lt hy]
  unfold IntKind.wrap
  simp only [hk]
  simp
  exact_mod_cast Nat.mod_eq_of_lt hb
 simp [eqGuard, Go.binOp, Op.intBits]
 simpa using e
theorem Zuf {P : Program} (x y c : Nat) (hc : c ≤ 1) (w : World) : (Extern.MathBitsCarry.three "Add64" #[.int .u64 (x : Int), .int .u64 (y : Int), .int .u64 (c : Int)]).run P w = .ok (x, y, c) w := by
 show ((do
  let c := (← asInt (.int .u64 (c : Int))).toNat
  if c > 1 then unsupported (.noEntry ("extern/math/bits." ++ "Add64" ++ ": a carry that is neither 0 nor 1"))
  pure ((← asInt (.int .u64 (x : Int))).toNat, (← asInt (.int .u64 (y : Int))).toNat, c)) : Sem (Nat × Nat × Nat)).run P w = _
 have hc' : ¬ 1 < c := by omega
 have e : ∀ n : Nat, (asInt (.int .u64 (n : Int))).run P w = .ok (n : Int) w := fun n => rfl
 simp only [e, Sem.run_bind, Sem.run_pure, Result.andThen, Int.toNat_natCast, gt_iff_lt, hc', if_false]
theorem Zuj {P : Program} {f : FuncId} {fn : Func} (hf : P.funcs[f]? = some fn) (h1 : (fn.name == "runtime.NumGoroutine") = false) (h2 : fn.body = none) (h3 : Extern.findNext fn = none)
  (h4 : Extern.find fn = some (fun args => do
   let (x, y, c) ← Extern.MathBitsCarry.three "Add64" args
   pure (Extern.MathBitsCarry.pair ((x + y + c) % Extern.MathBitsCarry.m64) ((x + y + c) / Extern.MathBitsCarry.m64)))) (x y c : Nat) (hc : c ≤ 1) (w : World) :
  (callFunc f #[.int .u64 (x : Int), .int .u64 (y : Int), .int .u64 (c : Int)]).run P w = .ok (.value (.tuple #[.int .u64 (((x + y + c) % 18446744073709551616 : Nat) : Int), .int .u64 (((x + y + c) / 18446744073709551616 : Nat) : Int)])) w := by
 rw [run_callFunc_extern hf h1 (by rw [h2]; rfl) h3 h4]
 have hm : Extern.MathBitsCarry.m64 = 18446744073709551616 := rfl
 simp only [Sem.run_bind, Zuf _ _ _ hc, Result.andThen, Extern.MathBitsCarry.pair, hm, Sem.run_pure]
 rfl
theorem natNe {a b : Nat} (h : ((a : Int) != (b : Int)) = true) : a ≠ b := fun e => by subst e; simp at h
theorem Qbz {a b : Nat} (h : ((a : Int) != (b : Int)) = false) : a = b := by simp only [bne_eq_false_iff_eq] at h; exact_mod_cast h
theorem natNe' {a b : Nat} (h : ((a : Int) == (b : Int)) = false) : a ≠ b := fun e => by subst e; simp at h
theorem natEq' {a b : Nat} (h : ((a : Int) == (b : Int)) = true) : a = b := by simp only [beq_iff_eq] at h; exact_mod_cast h
theorem Zxp (x : Nat) (hx : x < 4294967296) : 4294967295 ^^^ x = 4294967295 - x := by
 have h := BitVec.toNat_not (x := BitVec.ofNat 32 x)
 have h2 : (BitVec.allOnes 32 ^^^ BitVec.ofNat 32 x) = ~~~ (BitVec.ofNat 32 x) := BitVec.allOnes_xor
 have h3 := congrArg BitVec.toNat h2
 rw [BitVec.toNat_xor, h] at h3
 simp only [BitVec.toNat_allOnes, BitVec.toNat_ofNat, Nat.mod_eq_of_lt (show x < 2 ^ 32 by omega)] at h3
 have e : (2 : Nat) ^ 32 = 4294967296 := by decide
 rw [e] at h3
 omega
theorem Zmh (x : Nat) (hx : x < 4294967296) : (Op.unary .xor (.int .u32 (x : Int))).run P w = .ok (.int .u32 ((4294967295 - x : Nat) : Int)) w := by
 have h := Zue (P := P) (w := w) (k := .u32) rfl 0 (.tmp 0) (.tmp 0) 4294967295 x (by decide) hx
 rw [Zxp x hx] at h
 show (Op.intBits .xor .u32 4294967295 (x : Int)).run P w = _
 simpa [eqGuard, Go.binOp] using h
end
end Go.Fx
