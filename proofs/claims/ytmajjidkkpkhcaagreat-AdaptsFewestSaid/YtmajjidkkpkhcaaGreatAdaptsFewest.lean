/- Whatever the input, 'gussetlaw44.AdaptsFewest' returns true and leaves its arguments as they were.
   Conditions: those of the given row, and no others. By an AI agent. -/
import Derived.Test.YtmajjidkkpkhcaaGreatRows
import Derived.Test.YtmajjidkkpkhcaaGreatChecked
import Derived.WalkKit
import Derived.ProofKit
import Derived.OpenShut
import Derived.Deep.DeepHandedRow
import Derived.Lib.LaidTab
import Derived.Deep.Strs
import Derived.Carry
import Derived.Test.YtmajjidkkpkhcaaGreatLaw44e
set_option linter.unusedVariables false
set_option maxRecDepth 100000
namespace Go.Proofs.YtmajjidkkpkhcaaGreat.fnAdaptsFewest
open Go Go.Fx Go.ChangeShapes Go.WideShapes Go.ChangeAt Go.RowKit
theorem own : ownKnob Tryz.prog.godebug = none := by kernel_rfl
theorem laidOut : laidOutB Tryz.prog = true := by kernel_rfl
theorem cells66 : Tryz.prog.cellsOf 25 = 2 := by kernel_rfl
theorem cells2 : Tryz.prog.cellsOf 2 = 1 := by kernel_rfl
theorem cells64 : Tryz.prog.cellsOf 23 = 1 := by kernel_rfl
section
variable {H : Type} {enc : TypeId × Value → H} {W : World}
theorem read_q {sp : Nat → Bool} {fuel : Nat} {v0 v1 : Value} {x : DataW H × List MemPlace} (h : DataW.trod enc Tryz.prog W 0 sp true fuel 25 [v0, v1] = some x) : ∃ q : Int × Int, OkQ q ∧ v0 = .int .i64 q.1 ∧ v1 = .int .u32 q.2 := by
  obtain ⟨y0, y1, n, _, _, u0, u1⟩ := trod_struct2 Tryz.underlying25 h
  simp only [cells2, cells64, List.drop, List.take] at u0 u1
  obtain ⟨s, e0, _, w0⟩ := DataW.trod_int Tryz.underlying2 u0
  obtain ⟨q, e1, _, w1⟩ := DataW.trod_int Tryz.underlying23 u1
  simp only [List.cons.injEq, and_true] at e0 e1
  have b0 := bounds_i64 w0
  have b1 := bounds_u32 w1
  exact ⟨(s, q), ⟨b0.1, b0.2, b1.1, b1.2⟩, e0, e1⟩
theorem open_qs {a0 : Option Addr} {len cap : Nat} {d : DataW H} {p : List MemPlace} (h0 : DataW.Trod enc Tryz.prog W 0 (fun _ => true) true 22 (.slice a0 len cap) d p) :
    ∃ l : List (Int × Int), l.length = len ∧ len ≤ 9223372036854775807 ∧ (∀ q ∈ l, OkQ q) ∧ (Row a0 (cellsOf encQ2 l)).p (fun _ => False) W := by
  obtain ⟨fuel, hf⟩ := h0
  rcases Deep.open_slice Tryz.underlying22 hf with ⟨hcs, hx⟩ | ⟨a, len', cap', m, n, D, Pl, hcs, _, hl, hm, hmm, hx, hcell⟩
  · simp [Value.cells] at hcs
    obtain ⟨rfl, rfl, rfl⟩ := hcs
    exact ⟨[], rfl, by omega, (by intro q hq; cases hq), fun hne => absurd rfl hne⟩
  · simp [Value.cells] at hcs
    obtain ⟨rfl, rfl, rfl⟩ := hcs
    have hlm : len ≤ m := by rw [hmm]; split <;> omega
    have hmx : cap ≤ 9223372036854775807 := by have := hm; unfold maxLen at this; omega
    rw [cells66] at hcell
    have each : ∀ i, i < len → ∃ w : Int × Int, OkQ w ∧ ∀ j, j < 2 → W.cell? (a.add (i * 2 + j)) = (Value.cells (encQ2 w)).toList[j]? := by
      intro i hi
      obtain ⟨cs', g1, g2⟩ := hcell i (by omega)
      obtain ⟨_, hlen, hc⟩ := World.cells?_some g1
      match cs', hlen with
      | [v0, v1], _ =>
      obtain ⟨w, k0, rfl, rfl⟩ := read_q g2
      refine ⟨w, k0, fun j hj => ?_⟩
      have := hc j hj
      rw [Deep.add_add] at this
      exact this
    obtain ⟨w, hw⟩ := Deep.choose_lt each
    refine ⟨(List.range len).map w, by simp, by omega, ?_, ?_⟩
    · intro q hq
      obtain ⟨i, hi, rfl⟩ := List.mem_map.1 hq
      exact (hw i (List.mem_range.1 hi)).1
    · intro hne
      have hpos : 0 < len := by
        rcases Nat.eq_zero_or_pos len with h | h
        · subst h; exact absurd rfl hne
        · exact h
      obtain ⟨b, off, spot⟩ := a
      have h00 := (hw 0 hpos).2 0 (by decide)
      have hspot : spot = none := by simpa [Addr.add] using World.cell?_spot h00
      subst hspot
      have hblk : ∃ cs T fr, W.heap[b]? = some (.cells cs T fr) := by
        have h01 : (W.cell? (Addr.add ⟨b, off, none⟩ (0 * 2 + 0))).isSome := by rw [h00]; rfl
        unfold World.cell? Addr.add at h01
        simp only at h01
        split at h01
        · rename_i c T fr hc; exact ⟨c, T, fr, hc⟩
        · cases h01
      obtain ⟨cs, T, fr, hc⟩ := hblk
      refine ⟨b, off, cs, T, fr, rfl, id, hc, fun j hj => ?_⟩
      rw [cellsOf_length (k := 2) (fun _ => rfl)] at hj
      simp only [List.length_map, List.length_range] at hj
      have hi : j / 2 < len := by omega
      have h1 := (hw (j / 2) hi).2 (j % 2) (Nat.mod_lt _ (by decide))
      have h2 := cellsOf_get (k := 2) (enc := encQ2) (fun _ => rfl) ((List.range len).map w) (j / 2) (j % 2) (by simpa using hi) (Nat.mod_lt _ (by decide))
      rw [show j / 2 * 2 + j % 2 = j by omega] at h1 h2
      rw [h2]
      simp only [List.getElem_map, List.getElem_range]
      rw [← h1, add_addr]
      unfold World.cell?
      simp only [hc]
      rfl
end
/-- What the contract gives, for every argument and every world. -/
theorem contract (H : Type) (enc : TypeId × Value → H) (W : World) (base : Nat) (args : Array Value) (ds gs : List (DataW H)) (before : List MemPlace)
    (hval : ∀ (j : Nat) t v, Tryz.f4.params[j]? = some t → args[j]? = some v → Value.okWide Tryz.prog W .any base t v)
    (hW : DataW.Whole enc Tryz.prog Tryz.f4.params.toList Rows.adaptsFewestSpec.vars false W args.toList ds gs before) :
    Calls Tryz.prog 4 args W fun e W' => ∃ v, e = .returned v ∧ Rows.adaptsFewestSpec.post enc Tryz.prog Tryz.f4 false true false false W args v W' := by
  have hW' := hW
  obtain ⟨p, q, hA0, hV, rfl, hfz, hnd⟩ := hW
  have hA : DataW.TrodAll enc Tryz.prog W 0 (fun _ => true) true Tryz.f4.params.toList args.toList ds p := hA0
  rw [Tryz.params4] at hA hval
  obtain ⟨v0, vs0, d0, ds0, p0, q0, hargs, rfl, rfl, h0, r0⟩ := trodAll_cons hA
  obtain ⟨v1, vs1, d1, ds1, p1, q1, rfl, rfl, rfl, h1, r1⟩ := trodAll_cons r0
  obtain ⟨rfl, rfl, rfl⟩ := trodAll_nil r1
  obtain rfl : args = #[v0, v1] := by cases args; simp_all
  obtain ⟨rfl, rfl⟩ := trodVars_none hV
  obtain ⟨a0, len, cap, rfl⟩ := okWide_slice Tryz.underlying22 (hval 0 22 v0 rfl rfl)
  obtain ⟨cs, rfl, hsz⟩ := okWide_struct Tryz.underlying25 (hval 1 25 v1 rfl rfl)
  clear hA0
  simp only [List.append_nil] at hW'
  have hlt : ∀ x ∈ p0, x.block < W.heap.size := fun x hx => by simpa using hW'.lt x (List.mem_append_left _ hx)
  have hlt1 : ∀ x ∈ p1, x.block < W.heap.size := fun x hx => by simpa using hW'.lt x (List.mem_append_right _ hx)
  have walk : Calls Tryz.prog 4 #[.slice a0 len cap, .agg cs] W fun e w' => e = .returned (.bool true) ∧ Below W.heap.size W w' := by
    obtain ⟨l, rfl, hn, hok, hrow⟩ := open_qs h0
    rw [cells66] at hsz
    obtain ⟨fuel, hf⟩ := h1
    obtain ⟨l1⟩ := cs
    match l1, hsz with
    | [u0, u1], _ =>
    obtain ⟨q, hq, rfl, rfl⟩ := read_q (v0 := u0) (v1 := u1) hf
    have hc := C_AdaptsFewest a0 cap l hok q.1 q.2 hq.1 hq.2.1 hq.2.2.1 hq.2.2.2 hn (fun _ => False) W (fun _ h => h.elim) (fun R hR => by rw [List.mem_singleton] at hR; subst hR; exact hrow)
    exact Calls.mono hc (fun e w' ⟨v, Ψ, h1, ⟨h2, _⟩, h3, _⟩ => ⟨by rw [h1, h2], h3⟩)
  refine walk.mono fun e W' ⟨he, hb⟩ => ?_
  subst he
  refine ⟨_, rfl, _, _, _, [], (p0 ++ (p1 ++ [])), [], hW', ?_, ?_, ?_, ?_, fun h => by cases h⟩
  · exact trodAll_cons_mk (shut_bool Tryz.underlying4 _) trodAll_mk0
  · exact trodAll_cons_mk (Below.trod laidOut (by kernel_rfl) (of_decide_eq_true (by kernel_rfl)) h0 hb hlt) (trodAll_cons_mk (Below.trod laidOut (by kernel_rfl) (of_decide_eq_true (by kernel_rfl)) h1 hb hlt1) trodAll_mk0)
  · exact rfl
  · exact World.keptBut_mono (fun _ f => f.elim) (hb.frame (fun _ => False))
/-- A world for the witness: the settled one, the listed tables holding what their initialisers lay. -/
noncomputable def laidWorld (os : Os) : World :=
  { World.holding Tryz.prog os ⟨#[], #[], []⟩ with heap := (World.holding Tryz.prog os ⟨#[], #[], []⟩).heap }
theorem laid_met (os : Os) : laidMet Tryz.prog Rows.adaptsFewestRow.laid ((laidWorld os).forCall (fun _ _ => 0) ⟨#[], #[.slice none 0 0, .agg #[.int .i64 0, .int .u32 0]], []⟩).memory :=
  laidMet_of_run' 128 (by kernel_rfl) (by kernel_rfl)
theorem reads (os : Os) {H : Type} (enc : TypeId × Value → H) : ∃ places, DataW.whole enc Tryz.prog ((laidWorld os).forCall (fun _ _ => 0) ⟨#[], #[.slice none 0 0, .agg #[.int .i64 0, .int .u32 0]], []⟩).memory Tryz.f4.params.toList Rows.adaptsFewestSpec.vars false #[.slice none 0 0, .agg #[.int .i64 0, .int .u32 0]].toList 8 = some ([.nil, .agg [.lit (.int .i64 0), .lit (.int .u32 0)]], [], places) :=
  ⟨[], by kernel_rfl⟩
set_option maxRecDepth 100000 in
theorem lifted (os : Os) (started : os.Started) (H : Type) (enc : TypeId × Value → H) (F : Stop.Interp) :
    ReturnsInHanded {} Tryz.checked os 4 .any ((OpenSpec.ofChange Rows.adaptsFewestSpec).preRow enc Tryz.prog Tryz.f4 Rows.adaptsFewestRow.domain false Rows.adaptsFewestRow.laid) (((OpenSpec.ofChange Rows.adaptsFewestSpec).at F).post enc Tryz.prog Tryz.f4 false true false false) := by
  obtain ⟨places, hx⟩ := reads os enc
  refine returnsInHanded_of_row (C := Tryz.checked) (s := OpenSpec.ofChange Rows.adaptsFewestSpec) own started (by kernel_rfl) Tryz.func4
    (witness_row_at (enc := enc) (C := Tryz.checked) false (laidWorld os) #[.slice none 0 0, .agg #[.int .i64 0, .int .u32 0]] rfl (by kernel_rfl) (by kernel_rfl) (by kernel_rfl)
      (OpenSpec.preRow_of_cond 8 hx (by kernel_rfl) (fun k hk => by cases hk) (by kernel_rfl) (laid_met os))) ?_
  intro W base args ds gs before hval hW _ _ _ hL _ _
  exact contract H enc W base args ds gs before hval hW
theorem said : Rows.AdaptsFewestSaid :=
  OpenClaim.holds_of_cond 4 Tryz.f4 rfl rfl rfl rfl rfl rfl rfl ⟨rfl, rfl, rfl, rfl, rfl⟩ rfl rfl rfl rfl rfl (by kernel_rfl) Tryz.func4 (by kernel_rfl)
    (of_decide_eq_true (by kernel_rfl)) (by unfold Func.isWrapper; first | (rw [if_pos (by decide +kernel)]; kernel_rfl) | (rw [if_neg (by decide +kernel)]; exact ⟨rfl, rfl⟩))
    (fun os started H enc _ F => by rw [OpenClaim.pre_eq_preRow]; exact lifted os started H enc F)
#print axioms said
end Go.Proofs.YtmajjidkkpkhcaaGreat.fnAdaptsFewest
