/- Whatever the input, 'gussetlaw10.RulesDegree' returns true and leaves its argument as it was.
   Conditions: those of the given row, and no others. By an AI agent. -/
import Derived.Test.YtfmbhcnanphckaaGreatDoorCards
import Derived.Test.YtfmbhcnanphckaaGreatDoorTie
import Derived.WalkKit
import Derived.ProofKit
import Derived.OpenShut
import Derived.Deep.DeepHandedRow
import Derived.Lib.LaidTab
import Derived.Deep.Strs
import Derived.Carry
import Derived.Test.YtfmbhcnanphckaaGreatDoorLaw10d
set_option linter.unusedVariables false
set_option maxRecDepth 100000
namespace Go.Proofs.YtfmbhcnanphckaaGreatDoor.fnRulesDegree
open Go Go.Fx Go.ChangeShapes Go.WideShapes Go.ChangeAt Go.RowKit
theorem own : ownKnob Tryz.prog.godebug = none := by kernel_rfl
theorem laidOut : laidOutB Tryz.prog = true := by kernel_rfl
theorem cells68 : Tryz.prog.cellsOf 68 = 6 := by kernel_rfl
theorem cells66 : Tryz.prog.cellsOf 66 = 2 := by kernel_rfl
theorem cells2 : Tryz.prog.cellsOf 2 = 1 := by kernel_rfl
theorem cells64 : Tryz.prog.cellsOf 64 = 1 := by kernel_rfl
section
variable {H : Type} {enc : TypeId × Value → H} {W : World}
theorem read_q {sp : Nat → Bool} {fuel : Nat} {v0 v1 : Value} {x : DataW H × List MemPlace} (h : DataW.trod enc Tryz.prog W 0 sp true fuel 66 [v0, v1] = some x) : ∃ q : Int × Int, OkQ q ∧ v0 = .int .i64 q.1 ∧ v1 = .int .u32 q.2 := by
  obtain ⟨y0, y1, n, _, _, u0, u1⟩ := trod_struct2 Tryz.underlying66 h
  simp only [cells2, cells64, List.drop, List.take] at u0 u1
  obtain ⟨s, e0, _, w0⟩ := DataW.trod_int Tryz.underlying2 u0
  obtain ⟨q, e1, _, w1⟩ := DataW.trod_int Tryz.underlying64 u1
  simp only [List.cons.injEq, and_true] at e0 e1
  have b0 := bounds_i64 w0
  have b1 := bounds_u32 w1
  exact ⟨(s, q), ⟨b0.1, b0.2, b1.1, b1.2⟩, e0, e1⟩
theorem read_w {sp : Nat → Bool} {fuel : Nat} {cs : List Value} {x : DataW H × List MemPlace} (hl : cs.length = 6) (h : DataW.trod enc Tryz.prog W 0 sp true fuel 68 cs = some x) :
    ∃ w : (Int × Int) × (Int × Int) × (Int × Int), OkQ w.1 ∧ OkQ w.2.1 ∧ OkQ w.2.2 ∧ cs = (Value.cells (encW w)).toList := by
  obtain ⟨y0, y1, y2, n, _, _, u0, u1, u2⟩ := Deep.trod_struct3 Tryz.underlying68 h
  match cs, hl with
  | [v0, v1, v2, v3, v4, v5], _ =>
    simp only [cells66, List.drop, List.take] at u0 u1 u2
    obtain ⟨q0, k0, rfl, rfl⟩ := read_q u0
    obtain ⟨q1, k1, rfl, rfl⟩ := read_q u1
    obtain ⟨q2, k2, rfl, rfl⟩ := read_q u2
    exact ⟨(q0, q1, q2), k0, k1, k2, rfl⟩
theorem open_ws {a0 : Option Addr} {len cap : Nat} {d : DataW H} {p : List MemPlace} (h0 : DataW.Trod enc Tryz.prog W 0 (fun _ => true) true 62 (.slice a0 len cap) d p) :
    ∃ l : List ((Int × Int) × (Int × Int) × (Int × Int)), l.length = len ∧ len ≤ 9223372036854775807 ∧ (∀ q ∈ flW l, OkQ q) ∧ (Row a0 (cellsOf encW l)).p (fun _ => False) W := by
  obtain ⟨fuel, hf⟩ := h0
  rcases Deep.open_slice Tryz.underlying62 hf with ⟨hcs, hx⟩ | ⟨a, len', cap', m, n, D, Pl, hcs, _, hl, hm, hmm, hx, hcell⟩
  · simp [Value.cells] at hcs
    obtain ⟨rfl, rfl, rfl⟩ := hcs
    exact ⟨[], rfl, by omega, (by intro q hq; cases hq), fun hne => absurd rfl hne⟩
  · simp [Value.cells] at hcs
    obtain ⟨rfl, rfl, rfl⟩ := hcs
    have hlm : len ≤ m := by rw [hmm]; split <;> omega
    have hmx : cap ≤ 9223372036854775807 := by have := hm; unfold maxLen at this; omega
    rw [cells68] at hcell
    have each : ∀ i, i < len → ∃ w : (Int × Int) × (Int × Int) × (Int × Int), (OkQ w.1 ∧ OkQ w.2.1 ∧ OkQ w.2.2) ∧ ∀ j, j < 6 → W.cell? (a.add (i * 6 + j)) = (Value.cells (encW w)).toList[j]? := by
      intro i hi
      obtain ⟨cs', g1, g2⟩ := hcell i (by omega)
      obtain ⟨_, hlen, hc⟩ := World.cells?_some g1
      obtain ⟨w, k0, k1, k2, rfl⟩ := read_w hlen g2
      refine ⟨w, ⟨k0, k1, k2⟩, fun j hj => ?_⟩
      have := hc j hj
      rw [Deep.add_add] at this
      exact this
    obtain ⟨w, hw⟩ := Deep.choose_lt each
    refine ⟨(List.range len).map w, by simp, by omega, ?_, ?_⟩
    · intro q hq
      obtain ⟨x, hx, hq⟩ := List.mem_flatMap.1 hq
      obtain ⟨i, hi, rfl⟩ := List.mem_map.1 hx
      obtain ⟨⟨k0, k1, k2⟩, _⟩ := hw i (List.mem_range.1 hi)
      simp only [List.mem_cons, List.not_mem_nil, or_false] at hq
      rcases hq with rfl | rfl | rfl <;> assumption
    · intro hne
      have hpos : 0 < len := by
        rcases Nat.eq_zero_or_pos len with h | h
        · subst h; exact absurd rfl hne
        · exact h
      obtain ⟨b, off, spot⟩ := a
      have h00 := (hw 0 hpos).2 0 (by decide)
      have hspot : spot = none := by simpa [Addr.add] using World.cell?_spot h00
      subst hspot
      have hblk : ∃ cs T fr, W.heap[b]? = some (.cells cs T fr) := by
        have h01 : (W.cell? (Addr.add ⟨b, off, none⟩ (0 * 6 + 0))).isSome := by rw [h00]; rfl
        unfold World.cell? Addr.add at h01
        simp only at h01
        split at h01
        · rename_i c T fr hc; exact ⟨c, T, fr, hc⟩
        · cases h01
      obtain ⟨cs, T, fr, hc⟩ := hblk
      refine ⟨b, off, cs, T, fr, rfl, id, hc, fun j hj => ?_⟩
      rw [cellsOf_length (k := 6) (fun _ => rfl)] at hj
      simp only [List.length_map, List.length_range] at hj
      have hi : j / 6 < len := by omega
      have h1 := (hw (j / 6) hi).2 (j % 6) (Nat.mod_lt _ (by decide))
      have h2 := cellsOf_get (k := 6) (enc := encW) (fun _ => rfl) ((List.range len).map w) (j / 6) (j % 6) (by simpa using hi) (Nat.mod_lt _ (by decide))
      rw [show j / 6 * 6 + j % 6 = j by omega] at h1 h2
      rw [h2]
      simp only [List.getElem_map, List.getElem_range]
      rw [← h1, add_addr]
      unfold World.cell?
      simp only [hc]
      rfl
end
/-- What the contract gives, for every argument and every world. -/
theorem contract (H : Type) (enc : TypeId × Value → H) (W : World) (base : Nat) (args : Array Value) (ds gs : List (DataW H)) (before : List MemPlace)
    (hval : ∀ (j : Nat) t v, Tryz.f5.params[j]? = some t → args[j]? = some v → Value.okWide Tryz.prog W .any base t v)
    (hW : DataW.Whole enc Tryz.prog Tryz.f5.params.toList Rows.rulesDegreeSpec.vars false W args.toList ds gs before) :
    Calls Tryz.prog 5 args W fun e W' => ∃ v, e = .returned v ∧ Rows.rulesDegreeSpec.post enc Tryz.prog Tryz.f5 false true false false W args v W' := by
  have hW' := hW
  obtain ⟨p, q, hA0, hV, rfl, hfz, hnd⟩ := hW
  have hA : DataW.TrodAll enc Tryz.prog W 0 (fun _ => true) true Tryz.f5.params.toList args.toList ds p := hA0
  rw [Tryz.params5] at hA hval
  obtain ⟨v0, vs0, d0, ds0, p0, q0, hargs, rfl, rfl, h0, r0⟩ := trodAll_cons hA
  obtain ⟨rfl, rfl, rfl⟩ := trodAll_nil r0
  obtain rfl : args = #[v0] := by cases args; simp_all
  obtain ⟨rfl, rfl⟩ := trodVars_none hV
  obtain ⟨a0, len, cap, rfl⟩ := okWide_slice Tryz.underlying62 (hval 0 62 v0 rfl rfl)
  clear hA0
  simp only [List.append_nil] at hW'
  have hlt : ∀ x ∈ p0, x.block < W.heap.size := fun x hx => by simpa using hW'.lt x hx
  have walk : Calls Tryz.prog 5 #[.slice a0 len cap] W fun e w' => e = .returned (.bool true) ∧ Below W.heap.size W w' := by
    obtain ⟨l, rfl, hn, hok, hrow⟩ := open_ws h0
    have hc := C_RulesDegree a0 cap l hok hn (fun _ => False) W (fun _ h => h.elim) (fun R hR => by rw [List.mem_singleton] at hR; subst hR; exact hrow)
    exact Calls.mono hc (fun e w' ⟨v, Ψ, h1, ⟨h2, _⟩, h3, _⟩ => ⟨by rw [h1, h2], h3⟩)
  refine walk.mono fun e W' ⟨he, hb⟩ => ?_
  subst he
  refine ⟨_, rfl, _, _, _, [], (p0 ++ []), [], hW', ?_, ?_, ?_, ?_, fun h => by cases h⟩
  · exact trodAll_cons_mk (shut_bool Tryz.underlying4 _) trodAll_mk0
  · exact trodAll_cons_mk (Below.trod laidOut (by kernel_rfl) (of_decide_eq_true (by kernel_rfl)) h0 hb hlt) trodAll_mk0
  · exact rfl
  · exact World.keptBut_mono (fun _ f => f.elim) (hb.frame (fun _ => False))
/-- A world for the witness: the settled one, the listed tables holding what their initialisers lay. -/
noncomputable def laidWorld (os : Os) : World :=
  { World.holding Tryz.prog os ⟨#[], #[], []⟩ with heap := ((((World.holding Tryz.prog os ⟨#[], #[], []⟩).heap.modify 3 fun
      | .cells _ t frozen => .cells #[.int .u8 0, .int .u8 1, .int .u8 28, .int .u8 2, .int .u8 29, .int .u8 14, .int .u8 24, .int .u8 3, .int .u8 30, .int .u8 22, .int .u8 20, .int .u8 15, .int .u8 25, .int .u8 17, .int .u8 4, .int .u8 8, .int .u8 31, .int .u8 27, .int .u8 13, .int .u8 23, .int .u8 21, .int .u8 19, .int .u8 16, .int .u8 7, .int .u8 26, .int .u8 12, .int .u8 18, .int .u8 6, .int .u8 11, .int .u8 5, .int .u8 10, .int .u8 9] t frozen
      | o => o).modify 4 fun
      | .cells _ t frozen => .cells #[.int .u8 0, .int .u8 1, .int .u8 56, .int .u8 2, .int .u8 57, .int .u8 49, .int .u8 28, .int .u8 3, .int .u8 61, .int .u8 58, .int .u8 42, .int .u8 50, .int .u8 38, .int .u8 29, .int .u8 17, .int .u8 4, .int .u8 62, .int .u8 47, .int .u8 59, .int .u8 36, .int .u8 45, .int .u8 43, .int .u8 51, .int .u8 22, .int .u8 53, .int .u8 39, .int .u8 33, .int .u8 30, .int .u8 24, .int .u8 18, .int .u8 12, .int .u8 5, .int .u8 63, .int .u8 55, .int .u8 48, .int .u8 27, .int .u8 60, .int .u8 41, .int .u8 37, .int .u8 16, .int .u8 46, .int .u8 35, .int .u8 44, .int .u8 21, .int .u8 52, .int .u8 32, .int .u8 23, .int .u8 11, .int .u8 54, .int .u8 26, .int .u8 40, .int .u8 15, .int .u8 34, .int .u8 20, .int .u8 31, .int .u8 10, .int .u8 25, .int .u8 14, .int .u8 19, .int .u8 9, .int .u8 13, .int .u8 8, .int .u8 7, .int .u8 6] t frozen
      | o => o).modify 1 fun
      | .cells _ t frozen => .cells #[.int .u64 1, .int .u64 10, .int .u64 100, .int .u64 1000, .int .u64 10000, .int .u64 100000, .int .u64 1000000, .int .u64 10000000, .int .u64 100000000, .int .u64 1000000000, .int .u64 10000000000, .int .u64 100000000000, .int .u64 1000000000000, .int .u64 10000000000000, .int .u64 100000000000000, .int .u64 1000000000000000, .int .u64 10000000000000000, .int .u64 100000000000000000, .int .u64 1000000000000000000, .int .u64 10000000000000000000] t frozen
      | o => o) }
theorem laid_met (os : Os) : laidMet Tryz.prog Rows.rulesDegreeRow.laid ((laidWorld os).forCall (fun _ _ => 0) ⟨#[], #[.slice none 0 0], []⟩).memory :=
  laidMet_of_run' 128 (by kernel_rfl) (by kernel_rfl)
theorem reads (os : Os) {H : Type} (enc : TypeId × Value → H) : ∃ places, DataW.whole enc Tryz.prog ((laidWorld os).forCall (fun _ _ => 0) ⟨#[], #[.slice none 0 0], []⟩).memory Tryz.f5.params.toList Rows.rulesDegreeSpec.vars false #[.slice none 0 0].toList 8 = some ([.nil], [], places) :=
  ⟨[], by kernel_rfl⟩
set_option maxRecDepth 100000 in
theorem lifted (os : Os) (started : os.Started) (H : Type) (enc : TypeId × Value → H) (F : Stop.Interp) :
    ReturnsInHanded {} Tryz.checked os 5 .any ((OpenSpec.ofChange Rows.rulesDegreeSpec).preRow enc Tryz.prog Tryz.f5 Rows.rulesDegreeRow.domain false Rows.rulesDegreeRow.laid) (((OpenSpec.ofChange Rows.rulesDegreeSpec).at F).post enc Tryz.prog Tryz.f5 false true false false) := by
  obtain ⟨places, hx⟩ := reads os enc
  refine returnsInHanded_of_row (C := Tryz.checked) (s := OpenSpec.ofChange Rows.rulesDegreeSpec) own started (by kernel_rfl) Tryz.func5
    (witness_row_at (enc := enc) (C := Tryz.checked) false (laidWorld os) #[.slice none 0 0] rfl (by kernel_rfl) (by kernel_rfl) (by kernel_rfl)
      (OpenSpec.preRow_of_cond 8 hx (by kernel_rfl) (fun k hk => by cases hk) (by kernel_rfl) (laid_met os))) ?_
  intro W base args ds gs before hval hW _ _ _ hL _ _
  exact contract H enc W base args ds gs before hval hW
theorem said : Rows.RulesDegreeSaid :=
  OpenClaim.holds_of_cond 5 Tryz.f5 rfl rfl rfl rfl rfl rfl rfl ⟨rfl, rfl, rfl, rfl, rfl⟩ rfl rfl rfl rfl rfl (by kernel_rfl) Tryz.func5 (by kernel_rfl)
    (of_decide_eq_true (by kernel_rfl)) (by unfold Func.isWrapper; first | (rw [if_pos (by decide +kernel)]; kernel_rfl) | (rw [if_neg (by decide +kernel)]; exact ⟨rfl, rfl⟩))
    (fun os started H enc _ F => by rw [OpenClaim.pre_eq_preRow]; exact lifted os started H enc F)
theorem plain (f : FuncId) (fn : Func) (hf : Tryz.pinned.checked.prog.funcNamed "gusset/gussetlaw10.RulesDegree" = some f) (hfn : Tryz.pinned.checked.prog.funcs[f]? = some fn) :
    false = Tryz.pinned.checked.prog.looks [] ∧ ∀ (j : Nat) t, fn.params[j]? = some t → Tryz.pinned.checked.prog.wantsStandIn t = false := by
  obtain rfl : f = 5 := Option.some.inj ((show Tryz.prog.funcNamed "gusset/gussetlaw10.RulesDegree" = some 5 by kernel_rfl).symm.trans hf) |>.symm
  obtain rfl : fn = Tryz.f5 := (Option.some.inj (Tryz.func5.symm.trans hfn)).symm
  refine ⟨by kernel_rfl, fun j t ht => ?_⟩
  rw [Tryz.params5] at ht
  have ht2 := Array.mem_of_getElem? ht
  have s62 : Tryz.pinned.checked.prog.wantsStandIn 62 = false := by kernel_rfl
  simp only [List.mem_toArray, List.mem_cons, List.not_mem_nil, or_false] at ht2
  rcases ht2 with rfl <;> assumption
theorem card : Rows.RulesDegreeCardSaid :=
  Claim7.holds_tied_plain_at .later [] _ _ _ _ said (fun _ h => by cases h) (by kernel_rfl) (fun _ h => by cases h) rulesDegree_row_tie rfl ⟨rfl, rfl⟩ (by kernel_rfl) rfl plain (by kernel_rfl)
#print axioms card
end Go.Proofs.YtfmbhcnanphckaaGreatDoor.fnRulesDegree
