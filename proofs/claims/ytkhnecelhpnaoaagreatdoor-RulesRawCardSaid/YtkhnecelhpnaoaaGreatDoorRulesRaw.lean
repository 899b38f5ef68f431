/- Whatever the input, 'gussetlaw10.RulesRaw' returns true and leaves its arguments as they were.
   Conditions: those of the given row, and no others. By an AI agent. -/
import Derived.Test.YtkhnecelhpnaoaaGreatDoorCards
import Derived.Test.YtkhnecelhpnaoaaGreatDoorTie
import Derived.WalkKit
import Derived.ProofKit
import Derived.OpenShut
import Derived.Deep.DeepHandedRow
import Derived.Lib.LaidTab
import Derived.Deep.Strs
import Derived.Carry
import Derived.RowKit
import Derived.Test.YtkhnecelhpnaoaaGreatDoorLaw10k
set_option linter.unusedVariables false
set_option linter.unusedSimpArgs false
set_option maxRecDepth 100000
namespace Go.Proofs.YtkhnecelhpnaoaaGreatDoor.fnRulesRaw
open Go Go.Fx Go.ChangeShapes Go.WideShapes Go.ChangeAt Go.RowKit
theorem own : ownKnob Tryz.prog.godebug = none := by kernel_rfl
theorem laidOut : laidOutB Tryz.prog = true := by kernel_rfl
theorem cellsQ : Tryz.prog.cellsOf 24 = 2 := by kernel_rfl
theorem cellsI : Tryz.prog.cellsOf 2 = 1 := by kernel_rfl
theorem cellsU : Tryz.prog.cellsOf 22 = 1 := by kernel_rfl
theorem cellsN : Tryz.prog.cellsOf 3 = 1 := by kernel_rfl
theorem cellsT : Tryz.prog.cellsOf 30 = 4 := by kernel_rfl
theorem cellsP : Tryz.prog.cellsOf 27 = 4 := by kernel_rfl
theorem cellsW : Tryz.prog.cellsOf 73 = 6 := by kernel_rfl
section
variable {H : Type} {enc : TypeId × Value → H} {W : World}
theorem okWide_array {P : Program} {w : World} {r : Reach} {base n : Nat} {t e : TypeId} {v : Value} (ht : P.underlying t = some (.array n e)) (h : Value.okWide P w r base t v) : ∃ cs, v = .agg cs ∧ cs.size = P.cellsOf t := by
  simp only [Value.okWide, ht] at h
  obtain ⟨cs, h1, h2, _⟩ := h
  exact ⟨cs, h1, h2⟩
theorem read_q {sp : Nat → Bool} {fuel : Nat} {v0 v1 : Value} {x : DataW H × List MemPlace} (h : DataW.trod enc Tryz.prog W 0 sp true fuel 24 [v0, v1] = some x) : ∃ q : Int × Int, OkQ q ∧ v0 = .int .i64 q.1 ∧ v1 = .int .u32 q.2 := by
  obtain ⟨y0, y1, n, _, _, u0, u1⟩ := trod_struct2 Tryz.underlying24 h
  simp only [cellsI, cellsU, List.drop, List.take] at u0 u1
  obtain ⟨s, e0, _, w0⟩ := DataW.trod_int Tryz.underlying2 u0
  obtain ⟨q, e1, _, w1⟩ := DataW.trod_int Tryz.underlying22 u1
  simp only [List.cons.injEq, and_true] at e0 e1
  have b0 := bounds_i64 w0
  have b1 := bounds_u32 w1
  exact ⟨(s, q), ⟨b0.1, b0.2, b1.1, b1.2⟩, e0, e1⟩
instance : Inhabited Ti := ⟨Ti0⟩
theorem read_ti {sp : Nat → Bool} {fuel : Nat} {cs : List Value} {x : DataW H × List MemPlace} (hl : cs.length = 4) (h : DataW.trod enc Tryz.prog W 0 sp true fuel 30 cs = some x) :
    ∃ w : Ti, OkT w ∧ cs = (Value.cells (encTi w)).toList := by
  obtain ⟨y0, y1, y2, n, _, _, u0, u1, u2⟩ := Deep.trod_struct3 Tryz.underlying30 h
  match cs, hl with
  | [v0, v1, v2, v3], _ =>
    simp only [cellsN, cellsQ, List.drop, List.take] at u0 u1 u2
    obtain ⟨i, e0, _, w0⟩ := DataW.trod_int Tryz.underlying3 u0
    obtain ⟨j, e1, _, w1⟩ := DataW.trod_int Tryz.underlying3 u1
    obtain ⟨q, k, rfl, rfl⟩ := read_q u2
    simp only [List.cons.injEq, and_true] at e0 e1
    subst e0 e1
    exact ⟨⟨i, j, q.1, q.2⟩, ⟨bounds_i64 w0, bounds_i64 w1, k⟩, rfl⟩
theorem open_ti {a0 : Option Addr} {len cap : Nat} {d : DataW H} {p : List MemPlace} (h0 : DataW.Trod enc Tryz.prog W 0 (fun _ => true) true 31 (.slice a0 len cap) d p) :
    ∃ l : List (Ti), l.length = len ∧ len ≤ 9223372036854775807 ∧ (∀ q ∈ l, OkT q) ∧ (Row a0 (cellsOf encTi l)).p (fun _ => False) W := by
  obtain ⟨fuel, hf⟩ := h0
  rcases Deep.open_slice Tryz.underlying31 hf with ⟨hcs, hx⟩ | ⟨a, len', cap', m, n, D, Pl, hcs, _, hl, hm, hmm, hx, hcell⟩
  · simp [Value.cells] at hcs
    obtain ⟨rfl, rfl, rfl⟩ := hcs
    exact ⟨[], rfl, by omega, (by intro q hq; cases hq), fun hne => absurd rfl hne⟩
  · simp [Value.cells] at hcs
    obtain ⟨rfl, rfl, rfl⟩ := hcs
    have hlm : len ≤ m := by rw [hmm]; split <;> omega
    have hmx : cap ≤ 9223372036854775807 := by have := hm; unfold maxLen at this; omega
    rw [cellsT] at hcell
    have each : ∀ i, i < len → ∃ w : Ti, OkT w ∧ ∀ j, j < 4 → W.cell? (a.add (i * 4 + j)) = (Value.cells (encTi w)).toList[j]? := by
      intro i hi
      obtain ⟨cs', g1, g2⟩ := hcell i (by omega)
      obtain ⟨_, hlen, hc⟩ := World.cells?_some g1
      obtain ⟨w, k0, rfl⟩ := read_ti hlen g2
      refine ⟨w, k0, fun j hj => ?_⟩
      have := hc j hj
      rw [Deep.add_add] at this
      exact this
    obtain ⟨w, hw⟩ := Deep.choose_lt each
    refine ⟨(List.range len).map w, by simp, by omega, ?_, ?_⟩
    · intro q hq
      obtain ⟨i, hi, rfl⟩ := List.mem_map.1 hq
      exact (hw i (List.mem_range.1 hi)).1
    · intro hne
      have hpos : 0 < len := by
        rcases Nat.eq_zero_or_pos len with h | h
        · subst h; exact absurd rfl hne
        · exact h
      obtain ⟨b, off, spot⟩ := a
      have h00 := (hw 0 hpos).2 0 (by decide)
      have hspot : spot = none := by simpa [Addr.add] using World.cell?_spot h00
      subst hspot
      have hblk : ∃ cs T fr, W.heap[b]? = some (.cells cs T fr) := by
        have h01 : (W.cell? (Addr.add ⟨b, off, none⟩ (0 * 4 + 0))).isSome := by rw [h00]; rfl
        unfold World.cell? Addr.add at h01
        simp only at h01
        split at h01
        · rename_i c T fr hc; exact ⟨c, T, fr, hc⟩
        · cases h01
      obtain ⟨cs, T, fr, hc⟩ := hblk
      refine ⟨b, off, cs, T, fr, rfl, id, hc, fun j hj => ?_⟩
      rw [cellsOf_length (k := 4) (fun _ => rfl)] at hj
      simp only [List.length_map, List.length_range] at hj
      have hi : j / 4 < len := by omega
      have h1 := (hw (j / 4) hi).2 (j % 4) (Nat.mod_lt _ (by decide))
      have h2 := cellsOf_get (k := 4) (enc := encTi) (fun _ => rfl) ((List.range len).map w) (j / 4) (j % 4) (by simpa using hi) (Nat.mod_lt _ (by decide))
      rw [show j / 4 * 4 + j % 4 = j by omega] at h1 h2
      rw [h2]
      simp only [List.getElem_map, List.getElem_range]
      rw [← h1, add_addr]
      unfold World.cell?
      simp only [hc]
      rfl
theorem read_p {sp : Nat → Bool} {fuel : Nat} {cs : List Value} {x : DataW H × List MemPlace} (hl : cs.length = 4) (h : DataW.trod enc Tryz.prog W 0 sp true fuel 27 cs = some x) :
    ∃ w : (Int × Int) × (Int × Int), OkP w ∧ cs = (Value.cells (encPQ w)).toList := by
  obtain ⟨xs, m, _, _, _, hn, hi⟩ := DataW.trod_array Tryz.underlying27 h
  match xs, hn with
  | [x0, x1], _ =>
  match cs, hl with
  | [v0, v1, v2, v3], _ =>
    have u0 := hi 0 (by decide)
    have u1 := hi 1 (by decide)
    simp only [cellsQ, Nat.zero_mul, Nat.one_mul, List.drop, List.take, List.getElem?_cons_zero, List.getElem?_cons_succ] at u0 u1
    obtain ⟨q, k, rfl, rfl⟩ := read_q u0
    obtain ⟨r, k2, rfl, rfl⟩ := read_q u1
    exact ⟨(q, r), ⟨k, k2⟩, rfl⟩
def OkW (w : (Int × Int) × (Int × Int) × (Int × Int)) : Prop := OkQ w.1 ∧ OkQ w.2.1 ∧ OkQ w.2.2
theorem flW_ok {l : List ((Int × Int) × (Int × Int) × (Int × Int))} (h : ∀ q ∈ l, OkW q) : ∀ q ∈ flW l, OkQ q := by
  intro q hq
  obtain ⟨x, hx, hq⟩ := List.mem_flatMap.1 hq
  obtain ⟨k0, k1, k2⟩ := h x hx
  simp only [List.mem_cons, List.not_mem_nil, or_false] at hq
  rcases hq with rfl | rfl | rfl <;> assumption
theorem read_w {sp : Nat → Bool} {fuel : Nat} {cs : List Value} {x : DataW H × List MemPlace} (hl : cs.length = 6) (h : DataW.trod enc Tryz.prog W 0 sp true fuel 73 cs = some x) :
    ∃ w : (Int × Int) × (Int × Int) × (Int × Int), OkW w ∧ cs = (Value.cells (encW w)).toList := by
  obtain ⟨y0, y1, y2, n, _, _, u0, u1, u2⟩ := Deep.trod_struct3 Tryz.underlying73 h
  match cs, hl with
  | [v0, v1, v2, v3, v4, v5], _ =>
    simp only [cellsW, cellsQ, List.drop, List.take] at u0 u1 u2
    obtain ⟨q0, k0, rfl, rfl⟩ := read_q u0
    obtain ⟨q1, k1, rfl, rfl⟩ := read_q u1
    obtain ⟨q2, k2, rfl, rfl⟩ := read_q u2
    exact ⟨(q0, q1, q2), ⟨k0, k1, k2⟩, rfl⟩
theorem open_w {a0 : Option Addr} {len cap : Nat} {d : DataW H} {p : List MemPlace} (h0 : DataW.Trod enc Tryz.prog W 0 (fun _ => true) true 40 (.slice a0 len cap) d p) :
    ∃ l : List ((Int × Int) × (Int × Int) × (Int × Int)), l.length = len ∧ len ≤ 9223372036854775807 ∧ (∀ q ∈ l, OkW q) ∧ (Row a0 (cellsOf encW l)).p (fun _ => False) W := by
  obtain ⟨fuel, hf⟩ := h0
  rcases Deep.open_slice Tryz.underlying40 hf with ⟨hcs, hx⟩ | ⟨a, len', cap', m, n, D, Pl, hcs, _, hl, hm, hmm, hx, hcell⟩
  · simp [Value.cells] at hcs
    obtain ⟨rfl, rfl, rfl⟩ := hcs
    exact ⟨[], rfl, by omega, (by intro q hq; cases hq), fun hne => absurd rfl hne⟩
  · simp [Value.cells] at hcs
    obtain ⟨rfl, rfl, rfl⟩ := hcs
    have hlm : len ≤ m := by rw [hmm]; split <;> omega
    have hmx : cap ≤ 9223372036854775807 := by have := hm; unfold maxLen at this; omega
    rw [cellsW] at hcell
    have each : ∀ i, i < len → ∃ w : (Int × Int) × (Int × Int) × (Int × Int), OkW w ∧ ∀ j, j < 6 → W.cell? (a.add (i * 6 + j)) = (Value.cells (encW w)).toList[j]? := by
      intro i hi
      obtain ⟨cs', g1, g2⟩ := hcell i (by omega)
      obtain ⟨_, hlen, hc⟩ := World.cells?_some g1
      obtain ⟨w, k0, rfl⟩ := read_w hlen g2
      refine ⟨w, k0, fun j hj => ?_⟩
      have := hc j hj
      rw [Deep.add_add] at this
      exact this
    obtain ⟨w, hw⟩ := Deep.choose_lt each
    refine ⟨(List.range len).map w, by simp, by omega, ?_, ?_⟩
    · intro q hq
      obtain ⟨i, hi, rfl⟩ := List.mem_map.1 hq
      exact (hw i (List.mem_range.1 hi)).1
    · intro hne
      have hpos : 0 < len := by
        rcases Nat.eq_zero_or_pos len with h | h
        · subst h; exact absurd rfl hne
        · exact h
      obtain ⟨b, off, spot⟩ := a
      have h00 := (hw 0 hpos).2 0 (by decide)
      have hspot : spot = none := by simpa [Addr.add] using World.cell?_spot h00
      subst hspot
      have hblk : ∃ cs T fr, W.heap[b]? = some (.cells cs T fr) := by
        have h01 : (W.cell? (Addr.add ⟨b, off, none⟩ (0 * 6 + 0))).isSome := by rw [h00]; rfl
        unfold World.cell? Addr.add at h01
        simp only at h01
        split at h01
        · rename_i c T fr hc; exact ⟨c, T, fr, hc⟩
        · cases h01
      obtain ⟨cs, T, fr, hc⟩ := hblk
      refine ⟨b, off, cs, T, fr, rfl, id, hc, fun j hj => ?_⟩
      rw [cellsOf_length (k := 6) (fun _ => rfl)] at hj
      simp only [List.length_map, List.length_range] at hj
      have hi : j / 6 < len := by omega
      have h1 := (hw (j / 6) hi).2 (j % 6) (Nat.mod_lt _ (by decide))
      have h2 := cellsOf_get (k := 6) (enc := encW) (fun _ => rfl) ((List.range len).map w) (j / 6) (j % 6) (by simpa using hi) (Nat.mod_lt _ (by decide))
      rw [show j / 6 * 6 + j % 6 = j by omega] at h1 h2
      rw [h2]
      simp only [List.getElem_map, List.getElem_range]
      rw [← h1, add_addr]
      unfold World.cell?
      simp only [hc]
      rfl
end

/-- What the contract gives, for every argument and every world. -/
theorem contract (H : Type) (enc : TypeId × Value → H) (W : World) (base : Nat) (args : Array Value) (ds gs : List (DataW H)) (before : List MemPlace)
    (hval : ∀ (j : Nat) t v, Tryz.f4.params[j]? = some t → args[j]? = some v → Value.okWide Tryz.prog W .any base t v)
    (hW : DataW.Whole enc Tryz.prog Tryz.f4.params.toList Rows.rulesRawSpec.vars false W args.toList ds gs before) :
    Calls Tryz.prog 4 args W fun e W' => ∃ v, e = .returned v ∧ Rows.rulesRawSpec.post enc Tryz.prog Tryz.f4 false true false false W args v W' := by
  have hW' := hW
  obtain ⟨p, q, hA0, hV, rfl, hfz, hnd⟩ := hW
  have hA : DataW.TrodAll enc Tryz.prog W 0 (fun _ => true) true Tryz.f4.params.toList args.toList ds p := hA0
  rw [Tryz.params4] at hA hval
  obtain ⟨v0, vs0, d0, ds0, p0, pq0, hargs, rfl, rfl, h0, r0⟩ := trodAll_cons hA
  obtain ⟨v1, vs1, d1, ds1, p1, pq1, rfl, rfl, rfl, h1, r1⟩ := trodAll_cons r0
  obtain ⟨v2, vs2, d2, ds2, p2, pq2, rfl, rfl, rfl, h2, r2⟩ := trodAll_cons r1
  obtain ⟨v3, vs3, d3, ds3, p3, pq3, rfl, rfl, rfl, h3, r3⟩ := trodAll_cons r2
  obtain ⟨v4, vs4, d4, ds4, p4, pq4, rfl, rfl, rfl, h4, r4⟩ := trodAll_cons r3
  obtain ⟨v5, vs5, d5, ds5, p5, pq5, rfl, rfl, rfl, h5, r5⟩ := trodAll_cons r4
  obtain ⟨v6, vs6, d6, ds6, p6, pq6, rfl, rfl, rfl, h6, r6⟩ := trodAll_cons r5
  obtain ⟨v7, vs7, d7, ds7, p7, pq7, rfl, rfl, rfl, h7, r7⟩ := trodAll_cons r6
  obtain ⟨rfl, rfl, rfl⟩ := trodAll_nil r7
  obtain rfl : args = #[v0, v1, v2, v3, v4, v5, v6, v7] := by cases args; simp_all
  obtain ⟨rfl, rfl⟩ := trodVars_none hV
  obtain ⟨a0, len0, cap0, rfl⟩ := okWide_slice Tryz.underlying40 (hval 0 40 v0 rfl rfl)
  obtain ⟨x1, rfl, rfl, rfl, wx1⟩ := open_int Tryz.underlying3 (hval 1 3 v1 rfl rfl) h1
  obtain ⟨cs2, rfl, hsz2⟩ := okWide_struct Tryz.underlying24 (hval 2 24 v2 rfl rfl)
  obtain ⟨x3, rfl, rfl, rfl⟩ := Go.RowKit.open_bool Tryz.underlying4 (hval 3 4 v3 rfl rfl) h3
  obtain ⟨a4, len4, cap4, rfl⟩ := okWide_slice Tryz.underlying31 (hval 4 31 v4 rfl rfl)
  obtain ⟨cs5, rfl, hsz5⟩ := okWide_array Tryz.underlying27 (hval 5 27 v5 rfl rfl)
  obtain ⟨cs6, rfl, hsz6⟩ := okWide_array Tryz.underlying27 (hval 6 27 v6 rfl rfl)
  obtain ⟨cs7, rfl, hsz7⟩ := okWide_array Tryz.underlying27 (hval 7 27 v7 rfl rfl)
  clear hA0
  simp only [List.append_nil, List.nil_append] at hW'
  have hlt0 : ∀ x ∈ p0, x.block < W.heap.size := fun x hx => by simpa using hW'.lt x (by simp [hx])
  have hlt2 : ∀ x ∈ p2, x.block < W.heap.size := fun x hx => by simpa using hW'.lt x (by simp [hx])
  have hlt4 : ∀ x ∈ p4, x.block < W.heap.size := fun x hx => by simpa using hW'.lt x (by simp [hx])
  have hlt5 : ∀ x ∈ p5, x.block < W.heap.size := fun x hx => by simpa using hW'.lt x (by simp [hx])
  have hlt6 : ∀ x ∈ p6, x.block < W.heap.size := fun x hx => by simpa using hW'.lt x (by simp [hx])
  have hlt7 : ∀ x ∈ p7, x.block < W.heap.size := fun x hx => by simpa using hW'.lt x (by simp [hx])
  have walk : Calls Tryz.prog 4 #[.slice a0 len0 cap0, .int .i64 x1, .agg cs2, .bool x3, .slice a4 len4 cap4, .agg cs5, .agg cs6, .agg cs7] W fun e w' => e = .returned (.bool true) ∧ Below W.heap.size W w' := by
    obtain ⟨l0, rfl, hn0, hok0, hrow0⟩ := open_w h0
    have hx1 : -9223372036854775808 ≤ x1 ∧ x1 ≤ 9223372036854775807 := by simpa [Lit.wf, IntKind.min, IntKind.max, IntKind.signed, IntKind.bits] using wx1
    rw [cellsQ] at hsz2
    obtain ⟨fu2, hf2⟩ := h2
    obtain ⟨ls2⟩ := cs2
    match ls2, hsz2 with
    | [u2, w2], _ =>
    obtain ⟨q2, hq2, rfl, rfl⟩ := read_q (v0 := u2) (v1 := w2) hf2
    obtain ⟨l4, rfl, hn4, hok4, hrow4⟩ := open_ti h4
    rw [cellsP] at hsz5
    obtain ⟨fu5, hf5⟩ := h5
    obtain ⟨q5, hq5, hcs5⟩ := read_p (cs := cs5.toList) (by simpa using hsz5) hf5
    obtain rfl : cs5 = (Value.cells (encPQ q5)) := Array.ext' hcs5
    rw [cellsP] at hsz6
    obtain ⟨fu6, hf6⟩ := h6
    obtain ⟨q6, hq6, hcs6⟩ := read_p (cs := cs6.toList) (by simpa using hsz6) hf6
    obtain rfl : cs6 = (Value.cells (encPQ q6)) := Array.ext' hcs6
    rw [cellsP] at hsz7
    obtain ⟨fu7, hf7⟩ := h7
    obtain ⟨q7, hq7, hcs7⟩ := read_p (cs := cs7.toList) (by simpa using hsz7) hf7
    obtain rfl : cs7 = (Value.cells (encPQ q7)) := Array.ext' hcs7
    have hc := C_RulesRaw l0 x1 q2 x3 l4 a0 a4 cap0 cap4 (flW_ok hok0) hq2 hok4 hn0 hn4 q5 q6 q7 hq5 hq6 hq7 (fun _ => False) W (fun _ h => h.elim) (fun R hR => by simp only [List.mem_cons, List.not_mem_nil, or_false] at hR; rcases hR with rfl | rfl <;> first | exact hrow0 | exact hrow4)
    exact Calls.mono hc (fun e w' ⟨v, Ψ, h1, ⟨h2, _⟩, h3, _⟩ => ⟨by rw [h1, h2], h3⟩)
  refine walk.mono fun e W' ⟨he, hb⟩ => ?_
  subst he
  refine ⟨_, rfl, _, _, _, [], (p0 ++ ([] ++ (p2 ++ ([] ++ (p4 ++ (p5 ++ (p6 ++ (p7 ++ [])))))))), [], hW', ?_, ?_, ?_, ?_, fun h => by cases h⟩
  · exact trodAll_cons_mk (shut_bool Tryz.underlying4 _) trodAll_mk0
  · exact trodAll_cons_mk (Below.trod laidOut (by kernel_rfl) (of_decide_eq_true (by kernel_rfl)) h0 hb hlt0) (trodAll_cons_mk (shut_int Tryz.underlying3 wx1) (trodAll_cons_mk (Below.trod laidOut (by kernel_rfl) (of_decide_eq_true (by kernel_rfl)) h2 hb hlt2) (trodAll_cons_mk (Go.RowKit.shut_bool Tryz.underlying4 _) (trodAll_cons_mk (Below.trod laidOut (by kernel_rfl) (of_decide_eq_true (by kernel_rfl)) h4 hb hlt4) (trodAll_cons_mk (Below.trod laidOut (by kernel_rfl) (of_decide_eq_true (by kernel_rfl)) h5 hb hlt5) (trodAll_cons_mk (Below.trod laidOut (by kernel_rfl) (of_decide_eq_true (by kernel_rfl)) h6 hb hlt6) (trodAll_cons_mk (Below.trod laidOut (by kernel_rfl) (of_decide_eq_true (by kernel_rfl)) h7 hb hlt7) trodAll_mk0)))))))
  · exact rfl
  · exact World.keptBut_mono (fun _ f => f.elim) (hb.frame (fun _ => False))
/-- A world for the witness: the settled one, the listed tables holding what their initialisers lay. -/
noncomputable def laidWorld (os : Os) : World :=
  { World.holding Tryz.prog os ⟨#[], #[], []⟩ with heap := ((((World.holding Tryz.prog os ⟨#[], #[], []⟩).heap.modify 3 fun
      | .cells _ t frozen => .cells #[.int .u8 0, .int .u8 1, .int .u8 28, .int .u8 2, .int .u8 29, .int .u8 14, .int .u8 24, .int .u8 3, .int .u8 30, .int .u8 22, .int .u8 20, .int .u8 15, .int .u8 25, .int .u8 17, .int .u8 4, .int .u8 8, .int .u8 31, .int .u8 27, .int .u8 13, .int .u8 23, .int .u8 21, .int .u8 19, .int .u8 16, .int .u8 7, .int .u8 26, .int .u8 12, .int .u8 18, .int .u8 6, .int .u8 11, .int .u8 5, .int .u8 10, .int .u8 9] t frozen
      | o => o).modify 4 fun
      | .cells _ t frozen => .cells #[.int .u8 0, .int .u8 1, .int .u8 56, .int .u8 2, .int .u8 57, .int .u8 49, .int .u8 28, .int .u8 3, .int .u8 61, .int .u8 58, .int .u8 42, .int .u8 50, .int .u8 38, .int .u8 29, .int .u8 17, .int .u8 4, .int .u8 62, .int .u8 47, .int .u8 59, .int .u8 36, .int .u8 45, .int .u8 43, .int .u8 51, .int .u8 22, .int .u8 53, .int .u8 39, .int .u8 33, .int .u8 30, .int .u8 24, .int .u8 18, .int .u8 12, .int .u8 5, .int .u8 63, .int .u8 55, .int .u8 48, .int .u8 27, .int .u8 60, .int .u8 41, .int .u8 37, .int .u8 16, .int .u8 46, .int .u8 35, .int .u8 44, .int .u8 21, .int .u8 52, .int .u8 32, .int .u8 23, .int .u8 11, .int .u8 54, .int .u8 26, .int .u8 40, .int .u8 15, .int .u8 34, .int .u8 20, .int .u8 31, .int .u8 10, .int .u8 25, .int .u8 14, .int .u8 19, .int .u8 9, .int .u8 13, .int .u8 8, .int .u8 7, .int .u8 6] t frozen
      | o => o).modify 1 fun
      | .cells _ t frozen => .cells #[.int .u64 1, .int .u64 10, .int .u64 100, .int .u64 1000, .int .u64 10000, .int .u64 100000, .int .u64 1000000, .int .u64 10000000, .int .u64 100000000, .int .u64 1000000000, .int .u64 10000000000, .int .u64 100000000000, .int .u64 1000000000000, .int .u64 10000000000000, .int .u64 100000000000000, .int .u64 1000000000000000, .int .u64 10000000000000000, .int .u64 100000000000000000, .int .u64 1000000000000000000, .int .u64 10000000000000000000] t frozen
      | o => o) }
theorem laid_met (os : Os) : laidMet Tryz.prog Rows.rulesRawRow.laid ((laidWorld os).forCall (fun _ _ => 0) ⟨#[], #[.slice none 0 0, .int .i64 0, .agg #[.int .i64 0, .int .u32 0], .bool false, .slice none 0 0, .agg #[.int .i64 0, .int .u32 0, .int .i64 0, .int .u32 0], .agg #[.int .i64 0, .int .u32 0, .int .i64 0, .int .u32 0], .agg #[.int .i64 0, .int .u32 0, .int .i64 0, .int .u32 0]], []⟩).memory :=
  laidMet_of_run' 128 (by kernel_rfl) (by kernel_rfl)
theorem reads (os : Os) {H : Type} (enc : TypeId × Value → H) : ∃ places, DataW.whole enc Tryz.prog ((laidWorld os).forCall (fun _ _ => 0) ⟨#[], #[.slice none 0 0, .int .i64 0, .agg #[.int .i64 0, .int .u32 0], .bool false, .slice none 0 0, .agg #[.int .i64 0, .int .u32 0, .int .i64 0, .int .u32 0], .agg #[.int .i64 0, .int .u32 0, .int .i64 0, .int .u32 0], .agg #[.int .i64 0, .int .u32 0, .int .i64 0, .int .u32 0]], []⟩).memory Tryz.f4.params.toList Rows.rulesRawSpec.vars false #[.slice none 0 0, .int .i64 0, .agg #[.int .i64 0, .int .u32 0], .bool false, .slice none 0 0, .agg #[.int .i64 0, .int .u32 0, .int .i64 0, .int .u32 0], .agg #[.int .i64 0, .int .u32 0, .int .i64 0, .int .u32 0], .agg #[.int .i64 0, .int .u32 0, .int .i64 0, .int .u32 0]].toList 8 = some ([.nil, .lit (.int .i64 0), .agg [.lit (.int .i64 0), .lit (.int .u32 0)], .lit (.bool false), .nil, .agg [.agg [.lit (.int .i64 0), .lit (.int .u32 0)], .agg [.lit (.int .i64 0), .lit (.int .u32 0)]], .agg [.agg [.lit (.int .i64 0), .lit (.int .u32 0)], .agg [.lit (.int .i64 0), .lit (.int .u32 0)]], .agg [.agg [.lit (.int .i64 0), .lit (.int .u32 0)], .agg [.lit (.int .i64 0), .lit (.int .u32 0)]]], [], places) :=
  ⟨[], by kernel_rfl⟩
set_option maxRecDepth 100000 in
theorem lifted (os : Os) (started : os.Started) (H : Type) (enc : TypeId × Value → H) (F : Stop.Interp) :
    ReturnsInHanded {} Tryz.checked os 4 .any ((OpenSpec.ofChange Rows.rulesRawSpec).preRow enc Tryz.prog Tryz.f4 Rows.rulesRawRow.domain false Rows.rulesRawRow.laid) (((OpenSpec.ofChange Rows.rulesRawSpec).at F).post enc Tryz.prog Tryz.f4 false true false false) := by
  obtain ⟨places, hx⟩ := reads os enc
  refine returnsInHanded_of_row (C := Tryz.checked) (s := OpenSpec.ofChange Rows.rulesRawSpec) own started (by kernel_rfl) Tryz.func4
    (witness_row_at (enc := enc) (C := Tryz.checked) false (laidWorld os) #[.slice none 0 0, .int .i64 0, .agg #[.int .i64 0, .int .u32 0], .bool false, .slice none 0 0, .agg #[.int .i64 0, .int .u32 0, .int .i64 0, .int .u32 0], .agg #[.int .i64 0, .int .u32 0, .int .i64 0, .int .u32 0], .agg #[.int .i64 0, .int .u32 0, .int .i64 0, .int .u32 0]] rfl (by kernel_rfl) (by kernel_rfl) (by kernel_rfl)
      (OpenSpec.preRow_of_cond 8 hx (by kernel_rfl) (fun k hk => by cases hk) (by kernel_rfl) (laid_met os))) ?_
  intro W base args ds gs before hval hW _ _ _ hL _ _
  exact contract H enc W base args ds gs before hval hW
theorem said : Rows.RulesRawSaid :=
  OpenClaim.holds_of_cond 4 Tryz.f4 rfl rfl rfl rfl rfl rfl rfl ⟨rfl, rfl, rfl, rfl, rfl⟩ rfl rfl rfl rfl rfl (by kernel_rfl) Tryz.func4 (by kernel_rfl)
    (of_decide_eq_true (by kernel_rfl)) (by unfold Func.isWrapper; first | (rw [if_pos (by decide +kernel)]; kernel_rfl) | (rw [if_neg (by decide +kernel)]; exact ⟨rfl, rfl⟩))
    (fun os started H enc _ F => by rw [OpenClaim.pre_eq_preRow]; exact lifted os started H enc F)
theorem plain (f : FuncId) (fn : Func) (hf : Tryz.pinned.checked.prog.funcNamed "gusset/gussetlaw10.RulesRaw" = some f) (hfn : Tryz.pinned.checked.prog.funcs[f]? = some fn) :
    false = Tryz.pinned.checked.prog.looks [] ∧ ∀ (j : Nat) t, fn.params[j]? = some t → Tryz.pinned.checked.prog.wantsStandIn t = false := by
  obtain rfl : f = 4 := Option.some.inj ((show Tryz.prog.funcNamed "gusset/gussetlaw10.RulesRaw" = some 4 by kernel_rfl).symm.trans hf) |>.symm
  obtain rfl : fn = Tryz.f4 := (Option.some.inj (Tryz.func4.symm.trans hfn)).symm
  refine ⟨by kernel_rfl, fun j t ht => ?_⟩
  rw [Tryz.params4] at ht
  have ht2 := Array.mem_of_getElem? ht
  have s3 : Tryz.pinned.checked.prog.wantsStandIn 3 = false := by kernel_rfl
  have s4 : Tryz.pinned.checked.prog.wantsStandIn 4 = false := by kernel_rfl
  have s24 : Tryz.pinned.checked.prog.wantsStandIn 24 = false := by kernel_rfl
  have s27 : Tryz.pinned.checked.prog.wantsStandIn 27 = false := by kernel_rfl
  have s31 : Tryz.pinned.checked.prog.wantsStandIn 31 = false := by kernel_rfl
  have s40 : Tryz.pinned.checked.prog.wantsStandIn 40 = false := by kernel_rfl
  simp only [List.mem_toArray, List.mem_cons, List.not_mem_nil, or_false] at ht2
  rcases ht2 with rfl | rfl | rfl | rfl | rfl | rfl | rfl | rfl <;> assumption
theorem card : Rows.RulesRawCardSaid :=
  Claim7.holds_tied_plain_at .later [] _ _ _ _ said (fun _ h => by cases h) (by kernel_rfl) (fun _ h => by cases h) rulesRaw_row_tie rfl ⟨rfl, rfl⟩ (by kernel_rfl) rfl plain (by kernel_rfl)
#print axioms card
end Go.Proofs.YtkhnecelhpnaoaaGreatDoor.fnRulesRaw
