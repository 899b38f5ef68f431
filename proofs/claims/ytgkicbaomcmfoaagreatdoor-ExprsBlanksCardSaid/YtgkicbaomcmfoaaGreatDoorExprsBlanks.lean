/- Whatever the input, 'gussetlaw11.ExprsBlanks' returns true and leaves its arguments as they were.
   Conditions: those of the given row, and no others. By an AI agent. -/
import Derived.Test.YtgkicbaomcmfoaaGreatDoorCards
import Derived.Test.YtgkicbaomcmfoaaGreatDoorTie
import Derived.WalkKit
import Derived.ProofKit
import Derived.OpenShut
import Derived.Deep.DeepHandedRow
import Derived.Lib.LaidTab
import Derived.Deep.Strs
import Derived.Carry
import Derived.Test.YtgkicbaomcmfoaaGreatDoorLaw11f
set_option linter.unusedVariables false
set_option linter.unusedSimpArgs false
set_option maxRecDepth 100000
namespace Go.Proofs.YtgkicbaomcmfoaaGreatDoor.fnExprsBlanks
open Go Go.Fx Go.ChangeShapes Go.WideShapes Go.ChangeAt Go.RowKit
theorem own : ownKnob Tryz.prog.godebug = none := by kernel_rfl
theorem laidOut : laidOutB Tryz.prog = true := by kernel_rfl
theorem cellsQ : Tryz.prog.cellsOf 56 = 2 := by kernel_rfl
theorem cellsI : Tryz.prog.cellsOf 2 = 1 := by kernel_rfl
theorem cellsU : Tryz.prog.cellsOf 54 = 1 := by kernel_rfl
theorem cellsN : Tryz.prog.cellsOf 3 = 1 := by kernel_rfl
theorem cellsT : Tryz.prog.cellsOf 123 = 4 := by kernel_rfl
section
variable {H : Type} {enc : TypeId × Value → H} {W : World}
theorem okWide_array {P : Program} {w : World} {r : Reach} {base n : Nat} {t e : TypeId} {v : Value} (ht : P.underlying t = some (.array n e)) (h : Value.okWide P w r base t v) : ∃ cs, v = .agg cs ∧ cs.size = P.cellsOf t := by
  simp only [Value.okWide, ht] at h
  obtain ⟨cs, h1, h2, _⟩ := h
  exact ⟨cs, h1, h2⟩
theorem read_q {sp : Nat → Bool} {fuel : Nat} {v0 v1 : Value} {x : DataW H × List MemPlace} (h : DataW.trod enc Tryz.prog W 0 sp true fuel 56 [v0, v1] = some x) : ∃ q : Int × Int, OkQ q ∧ v0 = .int .i64 q.1 ∧ v1 = .int .u32 q.2 := by
  obtain ⟨y0, y1, n, _, _, u0, u1⟩ := trod_struct2 Tryz.underlying56 h
  simp only [cellsI, cellsU, List.drop, List.take] at u0 u1
  obtain ⟨s, e0, _, w0⟩ := DataW.trod_int Tryz.underlying2 u0
  obtain ⟨q, e1, _, w1⟩ := DataW.trod_int Tryz.underlying54 u1
  simp only [List.cons.injEq, and_true] at e0 e1
  have b0 := bounds_i64 w0
  have b1 := bounds_u32 w1
  exact ⟨(s, q), ⟨b0.1, b0.2, b1.1, b1.2⟩, e0, e1⟩
instance : Inhabited Ti := ⟨Ti0⟩
theorem read_ti {sp : Nat → Bool} {fuel : Nat} {cs : List Value} {x : DataW H × List MemPlace} (hl : cs.length = 4) (h : DataW.trod enc Tryz.prog W 0 sp true fuel 123 cs = some x) :
    ∃ w : Ti, OkT w ∧ cs = (Value.cells (encTi w)).toList := by
  obtain ⟨y0, y1, y2, n, _, _, u0, u1, u2⟩ := Deep.trod_struct3 Tryz.underlying123 h
  match cs, hl with
  | [v0, v1, v2, v3], _ =>
    simp only [cellsN, cellsQ, List.drop, List.take] at u0 u1 u2
    obtain ⟨i, e0, _, w0⟩ := DataW.trod_int Tryz.underlying3 u0
    obtain ⟨j, e1, _, w1⟩ := DataW.trod_int Tryz.underlying3 u1
    obtain ⟨q, k, rfl, rfl⟩ := read_q u2
    simp only [List.cons.injEq, and_true] at e0 e1
    subst e0 e1
    exact ⟨⟨i, j, q.1, q.2⟩, ⟨bounds_i64 w0, bounds_i64 w1, k⟩, rfl⟩
theorem open_ti {a0 : Option Addr} {len cap : Nat} {d : DataW H} {p : List MemPlace} (h0 : DataW.Trod enc Tryz.prog W 0 (fun _ => true) true 37 (.slice a0 len cap) d p) :
    ∃ l : List (Ti), l.length = len ∧ len ≤ 9223372036854775807 ∧ (∀ q ∈ l, OkT q) ∧ (Row a0 (cellsOf encTi l)).p (fun _ => False) W := by
  obtain ⟨fuel, hf⟩ := h0
  rcases Deep.open_slice Tryz.underlying37 hf with ⟨hcs, hx⟩ | ⟨a, len', cap', m, n, D, Pl, hcs, _, hl, hm, hmm, hx, hcell⟩
  · simp [Value.cells] at hcs
    obtain ⟨rfl, rfl, rfl⟩ := hcs
    exact ⟨[], rfl, by omega, (by intro q hq; cases hq), fun hne => absurd rfl hne⟩
  · simp [Value.cells] at hcs
    obtain ⟨rfl, rfl, rfl⟩ := hcs
    have hlm : len ≤ m := by rw [hmm]; split <;> omega
    have hmx : cap ≤ 9223372036854775807 := by have := hm; unfold maxLen at this; omega
    rw [cellsT] at hcell
    have each : ∀ i, i < len → ∃ w : Ti, OkT w ∧ ∀ j, j < 4 → W.cell? (a.add (i * 4 + j)) = (Value.cells (encTi w)).toList[j]? := by
      intro i hi
      obtain ⟨cs', g1, g2⟩ := hcell i (by omega)
      obtain ⟨_, hlen, hc⟩ := World.cells?_some g1
      obtain ⟨w, k0, rfl⟩ := read_ti hlen g2
      refine ⟨w, k0, fun j hj => ?_⟩
      have := hc j hj
      rw [Deep.add_add] at this
      exact this
    obtain ⟨w, hw⟩ := Deep.choose_lt each
    refine ⟨(List.range len).map w, by simp, by omega, ?_, ?_⟩
    · intro q hq
      obtain ⟨i, hi, rfl⟩ := List.mem_map.1 hq
      exact (hw i (List.mem_range.1 hi)).1
    · intro hne
      have hpos : 0 < len := by
        rcases Nat.eq_zero_or_pos len with h | h
        · subst h; exact absurd rfl hne
        · exact h
      obtain ⟨b, off, spot⟩ := a
      have h00 := (hw 0 hpos).2 0 (by decide)
      have hspot : spot = none := by simpa [Addr.add] using World.cell?_spot h00
      subst hspot
      have hblk : ∃ cs T fr, W.heap[b]? = some (.cells cs T fr) := by
        have h01 : (W.cell? (Addr.add ⟨b, off, none⟩ (0 * 4 + 0))).isSome := by rw [h00]; rfl
        unfold World.cell? Addr.add at h01
        simp only at h01
        split at h01
        · rename_i c T fr hc; exact ⟨c, T, fr, hc⟩
        · cases h01
      obtain ⟨cs, T, fr, hc⟩ := hblk
      refine ⟨b, off, cs, T, fr, rfl, id, hc, fun j hj => ?_⟩
      rw [cellsOf_length (k := 4) (fun _ => rfl)] at hj
      simp only [List.length_map, List.length_range] at hj
      have hi : j / 4 < len := by omega
      have h1 := (hw (j / 4) hi).2 (j % 4) (Nat.mod_lt _ (by decide))
      have h2 := cellsOf_get (k := 4) (enc := encTi) (fun _ => rfl) ((List.range len).map w) (j / 4) (j % 4) (by simpa using hi) (Nat.mod_lt _ (by decide))
      rw [show j / 4 * 4 + j % 4 = j by omega] at h1 h2
      rw [h2]
      simp only [List.getElem_map, List.getElem_range]
      rw [← h1, add_addr]
      unfold World.cell?
      simp only [hc]
      rfl
end
theorem tab (W : World) (hL : laidMetH Tryz.prog Rows.exprsBlanksRow.laid W) : TabF.p (fun _ => False) W := by
  have hl : laidMet Tryz.prog Rows.exprsBlanksRow.laid W := hL
  obtain ⟨ps, ⟨_, _, _, _, _, _, _, _, _, _, ⟨_, _, _, _, _, _, _, _, _, _, ⟨g', t', cs, fuel, p, q, hg', ht', hvar, hd, _, _⟩, _⟩, _⟩, _⟩ := hl
  have hg : Tryz.prog.globalNamed "internal/strconv.uint64pow10" = some g' := hg'
  have e := Lib.cells_of_tab (k := .u64) (zs := Lib.pow10Tab) (n := 20) (e := 45) (by
    obtain rfl : g' = 2 := Option.some.inj (hg.symm.trans (by kernel_rfl))
    obtain rfl := Option.some.inj (ht'.symm.trans (show (Tryz.prog.globals[2]?).map (·.type) = some 271 by kernel_rfl))
    exact Tryz.underlying271) Tryz.underlying45 (by kernel_rfl) (by
    obtain rfl : g' = 2 := Option.some.inj (hg.symm.trans (by kernel_rfl))
    obtain rfl := Option.some.inj (ht'.symm.trans (show (Tryz.prog.globals[2]?).map (·.type) = some 271 by kernel_rfl))
    kernel_rfl) hd
  have ht : Lib.TabIs Tryz.prog W "internal/strconv.uint64pow10" .u64 Lib.pow10Tab := by
    unfold Lib.TabIs
    rw [hvar, ← e]
  refine ⟨g', hg, fun h => h.elim, ?_, ht⟩
  have h2 := ht
  unfold Lib.TabIs World.var? at h2
  simp only [hg, Option.bind_some] at h2
  rcases Nat.lt_or_ge g' W.heap.size with h3 | h3
  · exact h3
  · rw [Array.getElem?_eq_none h3] at h2; simp at h2
theorem contract (H : Type) (enc : TypeId × Value → H) (W : World) (base : Nat) (args : Array Value) (ds gs : List (DataW H)) (before : List MemPlace)
    (hval : ∀ (j : Nat) t v, Tryz.f7.params[j]? = some t → args[j]? = some v → Value.okWide Tryz.prog W .any base t v)
    (hW : DataW.Whole enc Tryz.prog Tryz.f7.params.toList Rows.exprsBlanksSpec.vars false W args.toList ds gs before) (hL : laidMetH Tryz.prog Rows.exprsBlanksRow.laid W) :
    Calls Tryz.prog 7 args W fun e W' => ∃ v, e = .returned v ∧ Rows.exprsBlanksSpec.post enc Tryz.prog Tryz.f7 false true false false W args v W' := by
  have hW' := hW
  obtain ⟨p, q, hA0, hV, rfl, hfz, hnd⟩ := hW
  have hA : DataW.TrodAll enc Tryz.prog W 0 (fun _ => true) true Tryz.f7.params.toList args.toList ds p := hA0
  rw [Tryz.params7] at hA hval
  obtain ⟨v0, vs0, d0, ds0, p0, pq0, hargs, rfl, rfl, h0, r0⟩ := trodAll_cons hA
  obtain ⟨v1, vs1, d1, ds1, p1, pq1, rfl, rfl, rfl, h1, r1⟩ := trodAll_cons r0
  obtain ⟨v2, vs2, d2, ds2, p2, pq2, rfl, rfl, rfl, h2, r2⟩ := trodAll_cons r1
  obtain ⟨rfl, rfl, rfl⟩ := trodAll_nil r2
  obtain rfl : args = #[v0, v1, v2] := by cases args; simp_all
  obtain ⟨rfl, rfl⟩ := trodVars_none hV
  obtain ⟨a0, len0, cap0, rfl⟩ := okWide_slice Tryz.underlying37 (hval 0 37 v0 rfl rfl)
  obtain ⟨x1, rfl, rfl, rfl, wx1⟩ := open_int Tryz.underlying45 (hval 1 45 v1 rfl rfl) h1
  obtain ⟨x2, rfl, rfl, rfl, wx2⟩ := open_int Tryz.underlying5 (hval 2 5 v2 rfl rfl) h2
  clear hA0
  simp only [List.append_nil, List.nil_append] at hW'
  have hlt0 : ∀ x ∈ p0, x.block < W.heap.size := fun x hx => by simpa using hW'.lt x (by simp [hx])
  have walk : Calls Tryz.prog 7 #[.slice a0 len0 cap0, .int .u64 x1, .int .u8 x2] W fun e w' => e = .returned (.bool true) ∧ Below W.heap.size W w' := by
    obtain ⟨l0, rfl, hn0, hok0, hrow0⟩ := open_ti h0
    have hx1 : 0 ≤ x1 ∧ x1 ≤ 18446744073709551615 := by simpa [Lit.wf, IntKind.min, IntKind.max, IntKind.signed, IntKind.bits] using wx1
    obtain ⟨n1, rfl⟩ : ∃ n : Nat, x1 = (n : Int) := ⟨x1.toNat, by omega⟩
    have hx2 : 0 ≤ x2 ∧ x2 ≤ 255 := by simpa [Lit.wf, IntKind.min, IntKind.max, IntKind.signed, IntKind.bits] using wx2
    obtain ⟨n2, rfl⟩ : ∃ n : Nat, x2 = (n : Int) := ⟨x2.toNat, by omega⟩
    have hc := C_ExprsBlanks l0 a0 cap0 hok0 hn0 n1 n2 (by omega) (by omega) (fun _ => False) W (fun _ h => h.elim) (fun R hR => by simp only [List.mem_cons, List.not_mem_nil, or_false] at hR; rcases hR with rfl | rfl <;> first | exact hrow0 | exact tab W hL)
    exact Calls.mono hc (fun e w' ⟨v, Ψ, h1, ⟨h2, _⟩, h3, _⟩ => ⟨by rw [h1, h2], h3⟩)
  refine walk.mono fun e W' ⟨he, hb⟩ => ?_
  subst he
  refine ⟨_, rfl, _, _, _, [], (p0 ++ ([] ++ ([] ++ []))), [], hW', ?_, ?_, ?_, ?_, fun h => by cases h⟩
  · exact trodAll_cons_mk (shut_bool Tryz.underlying4 _) trodAll_mk0
  · exact trodAll_cons_mk (Below.trod laidOut (by kernel_rfl) (of_decide_eq_true (by kernel_rfl)) h0 hb hlt0) (trodAll_cons_mk (shut_int Tryz.underlying45 wx1) (trodAll_cons_mk (shut_int Tryz.underlying5 wx2) trodAll_mk0))
  · exact rfl
  · exact World.keptBut_mono (fun _ f => f.elim) (hb.frame (fun _ => False))
noncomputable def laidWorld (os : Os) : World :=
  { World.holding Tryz.prog os ⟨#[], #[], []⟩ with heap := ((((((World.holding Tryz.prog os ⟨#[], #[], []⟩).heap.modify 5 fun
      | .cells _ t frozen => .cells #[.int .u8 0, .int .u8 1, .int .u8 28, .int .u8 2, .int .u8 29, .int .u8 14, .int .u8 24, .int .u8 3, .int .u8 30, .int .u8 22, .int .u8 20, .int .u8 15, .int .u8 25, .int .u8 17, .int .u8 4, .int .u8 8, .int .u8 31, .int .u8 27, .int .u8 13, .int .u8 23, .int .u8 21, .int .u8 19, .int .u8 16, .int .u8 7, .int .u8 26, .int .u8 12, .int .u8 18, .int .u8 6, .int .u8 11, .int .u8 5, .int .u8 10, .int .u8 9] t frozen
      | o => o).modify 6 fun
      | .cells _ t frozen => .cells #[.int .u8 0, .int .u8 1, .int .u8 56, .int .u8 2, .int .u8 57, .int .u8 49, .int .u8 28, .int .u8 3, .int .u8 61, .int .u8 58, .int .u8 42, .int .u8 50, .int .u8 38, .int .u8 29, .int .u8 17, .int .u8 4, .int .u8 62, .int .u8 47, .int .u8 59, .int .u8 36, .int .u8 45, .int .u8 43, .int .u8 51, .int .u8 22, .int .u8 53, .int .u8 39, .int .u8 33, .int .u8 30, .int .u8 24, .int .u8 18, .int .u8 12, .int .u8 5, .int .u8 63, .int .u8 55, .int .u8 48, .int .u8 27, .int .u8 60, .int .u8 41, .int .u8 37, .int .u8 16, .int .u8 46, .int .u8 35, .int .u8 44, .int .u8 21, .int .u8 52, .int .u8 32, .int .u8 23, .int .u8 11, .int .u8 54, .int .u8 26, .int .u8 40, .int .u8 15, .int .u8 34, .int .u8 20, .int .u8 31, .int .u8 10, .int .u8 25, .int .u8 14, .int .u8 19, .int .u8 9, .int .u8 13, .int .u8 8, .int .u8 7, .int .u8 6] t frozen
      | o => o).modify 2 fun
      | .cells _ t frozen => .cells #[.int .u64 1, .int .u64 10, .int .u64 100, .int .u64 1000, .int .u64 10000, .int .u64 100000, .int .u64 1000000, .int .u64 10000000, .int .u64 100000000, .int .u64 1000000000, .int .u64 10000000000, .int .u64 100000000000, .int .u64 1000000000000, .int .u64 10000000000000, .int .u64 100000000000000, .int .u64 1000000000000000, .int .u64 10000000000000000, .int .u64 100000000000000000, .int .u64 1000000000000000000, .int .u64 10000000000000000000] t frozen
      | o => o).modify 4 fun
      | .cells _ t frozen => .cells #[.int .u8 128, .int .u8 191, .int .u8 160, .int .u8 191, .int .u8 128, .int .u8 159, .int .u8 144, .int .u8 191, .int .u8 128, .int .u8 143, .int .u8 0, .int .u8 0, .int .u8 0, .int .u8 0, .int .u8 0, .int .u8 0, .int .u8 0, .int .u8 0, .int .u8 0, .int .u8 0, .int .u8 0, .int .u8 0, .int .u8 0, .int .u8 0, .int .u8 0, .int .u8 0, .int .u8 0, .int .u8 0, .int .u8 0, .int .u8 0, .int .u8 0, .int .u8 0] t frozen
      | o => o).modify 3 fun
      | .cells _ t frozen => .cells (Go.Pinned.utf8FirstZ.map (fun n : Nat => Value.int .u8 n)).toArray t frozen
      | o => o) }
theorem laid_met (os : Os) : laidMet Tryz.prog Rows.exprsBlanksRow.laid ((laidWorld os).forCall (fun _ _ => 0) ⟨#[], #[.slice none 0 0, .int .u64 0, .int .u8 0], []⟩).memory :=
  laidMet_of_run' 128 (by kernel_rfl) (by kernel_rfl)
theorem reads (os : Os) {H : Type} (enc : TypeId × Value → H) : ∃ places, DataW.whole enc Tryz.prog ((laidWorld os).forCall (fun _ _ => 0) ⟨#[], #[.slice none 0 0, .int .u64 0, .int .u8 0], []⟩).memory Tryz.f7.params.toList Rows.exprsBlanksSpec.vars false #[.slice none 0 0, .int .u64 0, .int .u8 0].toList 8 = some ([.nil, .lit (.int .u64 0), .lit (.int .u8 0)], [], places) :=
  ⟨[], by kernel_rfl⟩
set_option maxRecDepth 100000 in
theorem lifted (os : Os) (started : os.Started) (H : Type) (enc : TypeId × Value → H) (F : Stop.Interp) :
    ReturnsInHanded {} Tryz.checked os 7 .any ((OpenSpec.ofChange Rows.exprsBlanksSpec).preRow enc Tryz.prog Tryz.f7 Rows.exprsBlanksRow.domain false Rows.exprsBlanksRow.laid) (((OpenSpec.ofChange Rows.exprsBlanksSpec).at F).post enc Tryz.prog Tryz.f7 false true false false) := by
  obtain ⟨places, hx⟩ := reads os enc
  refine returnsInHanded_of_row (C := Tryz.checked) (s := OpenSpec.ofChange Rows.exprsBlanksSpec) own started (by kernel_rfl) Tryz.func7
    (witness_row_at (enc := enc) (C := Tryz.checked) false (laidWorld os) #[.slice none 0 0, .int .u64 0, .int .u8 0] rfl (by kernel_rfl) (by kernel_rfl) (by kernel_rfl)
      (OpenSpec.preRow_of_cond 8 hx (by kernel_rfl) (fun k hk => by cases hk) (by kernel_rfl) (laid_met os))) ?_
  intro W base args ds gs before hval hW _ _ _ hL _ _
  exact contract H enc W base args ds gs before hval hW hL
theorem said : Rows.ExprsBlanksSaid :=
  OpenClaim.holds_of_cond 7 Tryz.f7 rfl rfl rfl rfl rfl rfl rfl ⟨rfl, rfl, rfl, rfl, rfl⟩ rfl rfl rfl rfl rfl (by kernel_rfl) Tryz.func7 (by kernel_rfl)
    (of_decide_eq_true (by kernel_rfl)) (by unfold Func.isWrapper; first | (rw [if_pos (by decide +kernel)]; kernel_rfl) | (rw [if_neg (by decide +kernel)]; exact ⟨rfl, rfl⟩))
    (fun os started H enc _ F => by rw [OpenClaim.pre_eq_preRow]; exact lifted os started H enc F)
theorem plain (f : FuncId) (fn : Func) (hf : Tryz.pinned.checked.prog.funcNamed "gusset/gussetlaw11.ExprsBlanks" = some f) (hfn : Tryz.pinned.checked.prog.funcs[f]? = some fn) :
    true = Tryz.pinned.checked.prog.looks [] ∧ ∀ (j : Nat) t, fn.params[j]? = some t → Tryz.pinned.checked.prog.wantsStandIn t = false := by
  obtain rfl : f = 7 := Option.some.inj ((show Tryz.prog.funcNamed "gusset/gussetlaw11.ExprsBlanks" = some 7 by kernel_rfl).symm.trans hf) |>.symm
  obtain rfl : fn = Tryz.f7 := (Option.some.inj (Tryz.func7.symm.trans hfn)).symm
  refine ⟨by kernel_rfl, fun j t ht => ?_⟩
  rw [Tryz.params7] at ht
  have ht2 := Array.mem_of_getElem? ht
  have s5 : Tryz.pinned.checked.prog.wantsStandIn 5 = false := by kernel_rfl
  have s37 : Tryz.pinned.checked.prog.wantsStandIn 37 = false := by kernel_rfl
  have s45 : Tryz.pinned.checked.prog.wantsStandIn 45 = false := by kernel_rfl
  simp only [List.mem_toArray, List.mem_cons, List.not_mem_nil, or_false] at ht2
  rcases ht2 with rfl | rfl | rfl <;> assumption
theorem card : Rows.ExprsBlanksCardSaid :=
  Claim7.holds_tied_plain_at .later [] _ _ _ _ said (fun _ h => by cases h) (by kernel_rfl) (fun _ h => by cases h) exprsBlanks_row_tie rfl ⟨rfl, rfl⟩ (by kernel_rfl) rfl plain (by kernel_rfl)
#print axioms card
end Go.Proofs.YtgkicbaomcmfoaaGreatDoor.fnExprsBlanks
