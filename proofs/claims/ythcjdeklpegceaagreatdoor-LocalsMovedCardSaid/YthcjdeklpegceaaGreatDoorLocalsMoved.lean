/- Whatever the input, 'gussetlaw37.LocalsMoved' returns true and leaves its argument as it was.
   Conditions: those of the given row, and no others. By an AI agent. -/
import Derived.Test.YthcjdeklpegceaaGreatDoorCards
import Derived.Test.YthcjdeklpegceaaGreatDoorTie
import Derived.WalkKit
import Derived.ProofKit
import Derived.OpenShut
import Derived.Deep.DeepHandedRow
import Derived.Lib.LaidTab
import Derived.Deep.Strs
import Derived.Carry
import Derived.Test.YthcjdeklpegceaaGreatDoorLocu
set_option linter.unusedVariables false
set_option linter.unusedSimpArgs false
set_option maxRecDepth 100000
namespace Go.Proofs.YthcjdeklpegceaaGreatDoor.fnLocalsMoved
open Go Go.Fx Go.ChangeShapes Go.WideShapes Go.ChangeAt Go.RowKit
theorem own : ownKnob Tryz.prog.godebug = none := by kernel_rfl
theorem laidOut : laidOutB Tryz.prog = true := by kernel_rfl
theorem Zwl : Tryz.prog.cellsOf 24 = 2 := by kernel_rfl
theorem cellsI : Tryz.prog.cellsOf 2 = 1 := by kernel_rfl
theorem cellsU : Tryz.prog.cellsOf 22 = 1 := by kernel_rfl
theorem cellsN : Tryz.prog.cellsOf 3 = 1 := by kernel_rfl
theorem cells2 : Tryz.prog.cellsOf 163 = 2 := by kernel_rfl
theorem cellsB : Tryz.prog.cellsOf 4 = 1 := by kernel_rfl
theorem Qau : Tryz.prog.cellsOf 27 = 4 := by kernel_rfl
theorem cellsK : Tryz.prog.cellsOf 25 = 6 := by kernel_rfl
theorem cellsT : Tryz.prog.cellsOf 29 = 12 := by kernel_rfl
theorem cellsV : Tryz.prog.cellsOf 30 = 12 := by kernel_rfl
theorem cellsC : Tryz.prog.cellsOf 32 = 35 := by kernel_rfl
section
variable {H : Type} {enc : TypeId × Value → H} {W : World}
theorem Qap {P : Program} {w : World} {r : Reach} {base n : Nat} {t e : TypeId} {v : Value} (ht : P.underlying t = some (.array n e)) (h : Value.okWide P w r base t v) : ∃ cs, v = .agg cs ∧ cs.size = P.cellsOf t := by
  simp only [Value.okWide, ht] at h
  obtain ⟨cs, h1, h2, _⟩ := h
  exact ⟨cs, h1, h2⟩
theorem Zds {sp : Nat → Bool} {fuel : Nat} {v0 v1 : Value} {x : DataW H × List MemPlace} (h : DataW.trod enc Tryz.prog W 0 sp true fuel 24 [v0, v1] = some x) : ∃ q : Int × Int, OkQ q ∧ v0 = .int .i64 q.1 ∧ v1 = .int .u32 q.2 := by
  obtain ⟨y0, y1, n, _, _, u0, u1⟩ := trod_struct2 Tryz.underlying24 h
  simp only [cellsI, cellsU, List.drop, List.take] at u0 u1
  obtain ⟨s, e0, _, w0⟩ := DataW.trod_int Tryz.underlying2 u0
  obtain ⟨q, e1, _, w1⟩ := DataW.trod_int Tryz.underlying22 u1
  simp only [List.cons.injEq, and_true] at e0 e1
  have b0 := bounds_i64 w0
  have b1 := bounds_u32 w1
  exact ⟨(s, q), ⟨b0.1, b0.2, b1.1, b1.2⟩, e0, e1⟩
theorem read_k {sp : Nat → Bool} {fuel : Nat} {cs : List Value} {x : DataW H × List MemPlace} (hl : cs.length = 6) (h : DataW.trod enc Tryz.prog W 0 sp true fuel 25 cs = some x) :
    ∃ k0 k1 k2 : Int × Int, OkQ k0 ∧ OkQ k1 ∧ OkQ k2 ∧ cs = [.int .i64 k0.1, .int .u32 k0.2, .int .i64 k1.1, .int .u32 k1.2, .int .i64 k2.1, .int .u32 k2.2] := by
  obtain ⟨xs, m, _, _, _, hn, hi⟩ := DataW.trod_array Tryz.underlying25 h
  match xs, hn with
  | [x0, x1, x2], _ =>
  match cs, hl with
  | [c0, c1, c2, c3, c4, c5], _ =>
    have u0 := hi 0 (by decide)
    have u1 := hi 1 (by decide)
    have u2 := hi 2 (by decide)
    simp only [Zwl, Nat.zero_mul, Nat.one_mul, Nat.reduceMul, List.drop, List.take, List.getElem?_cons_zero, List.getElem?_cons_succ] at u0 u1 u2
    obtain ⟨k0, w0, rfl, rfl⟩ := Zds u0
    obtain ⟨k1, w1, rfl, rfl⟩ := Zds u1
    obtain ⟨k2, w2, rfl, rfl⟩ := Zds u2
    exact ⟨k0, k1, k2, w0, w1, w2, rfl⟩
theorem read_v {sp : Nat → Bool} {fuel : Nat} {cs : List Value} {x : DataW H × List MemPlace} (hl : cs.length = 12) (h : DataW.trod enc Tryz.prog W 0 sp true fuel 30 cs = some x) :
    ∃ v0 v1 v2 v3 v4 v5 : Int × Int, OkQ v0 ∧ OkQ v1 ∧ OkQ v2 ∧ OkQ v3 ∧ OkQ v4 ∧ OkQ v5 ∧ cs = [.int .i64 v0.1, .int .u32 v0.2, .int .i64 v1.1, .int .u32 v1.2, .int .i64 v2.1, .int .u32 v2.2, .int .i64 v3.1, .int .u32 v3.2, .int .i64 v4.1, .int .u32 v4.2, .int .i64 v5.1, .int .u32 v5.2] := by
  obtain ⟨xs, m, _, _, _, hn, hi⟩ := DataW.trod_array Tryz.underlying30 h
  match xs, hn with
  | [x0, x1, x2, x3, x4, x5], _ =>
  match cs, hl with
  | [c0, c1, c2, c3, c4, c5, c6, c7, c8, c9, c10, c11], _ =>
    have u0 := hi 0 (by decide)
    have u1 := hi 1 (by decide)
    have u2 := hi 2 (by decide)
    have u3 := hi 3 (by decide)
    have u4 := hi 4 (by decide)
    have u5 := hi 5 (by decide)
    simp only [Zwl, Nat.zero_mul, Nat.one_mul, Nat.reduceMul, List.drop, List.take, List.getElem?_cons_zero, List.getElem?_cons_succ] at u0 u1 u2 u3 u4 u5
    obtain ⟨v0, w0, rfl, rfl⟩ := Zds u0
    obtain ⟨v1, w1, rfl, rfl⟩ := Zds u1
    obtain ⟨v2, w2, rfl, rfl⟩ := Zds u2
    obtain ⟨v3, w3, rfl, rfl⟩ := Zds u3
    obtain ⟨v4, w4, rfl, rfl⟩ := Zds u4
    obtain ⟨v5, w5, rfl, rfl⟩ := Zds u5
    exact ⟨v0, v1, v2, v3, v4, v5, w0, w1, w2, w3, w4, w5, rfl⟩
theorem Zp6 {sp : Nat → Bool} {fuel : Nat} {c0 c1 c2 c3 : Value} {x : DataW H × List MemPlace} (h : DataW.trod enc Tryz.prog W 0 sp true fuel 27 [c0, c1, c2, c3] = some x) :
    ∃ pm : (Int × Int) × (Int × Int), OkP pm ∧ [c0, c1, c2, c3] = [.int .i64 pm.1.1, .int .u32 pm.1.2, .int .i64 pm.2.1, .int .u32 pm.2.2] := by
  obtain ⟨y0, y1, n, _, _, u0, u1⟩ := trod_struct2 Tryz.underlying27 h
  simp only [Zwl, List.drop, List.take] at u0 u1
  obtain ⟨q0, k0, rfl, rfl⟩ := Zds u0
  obtain ⟨q1, k1, rfl, rfl⟩ := Zds u1
  exact ⟨(q0, q1), ⟨k0, k1⟩, rfl⟩
theorem read_t {sp : Nat → Bool} {fuel : Nat} {cs : List Value} {x : DataW H × List MemPlace} (hl : cs.length = 12) (h : DataW.trod enc Tryz.prog W 0 sp true fuel 29 cs = some x) :
    ∃ p0 p1 p2 : (Int × Int) × (Int × Int), OkP p0 ∧ OkP p1 ∧ OkP p2 ∧ cs = [.int .i64 p0.1.1, .int .u32 p0.1.2, .int .i64 p0.2.1, .int .u32 p0.2.2, .int .i64 p1.1.1, .int .u32 p1.1.2, .int .i64 p1.2.1, .int .u32 p1.2.2, .int .i64 p2.1.1, .int .u32 p2.1.2, .int .i64 p2.2.1, .int .u32 p2.2.2] := by
  obtain ⟨xs, m, _, _, _, hn, hi⟩ := DataW.trod_array Tryz.underlying29 h
  match xs, hn with
  | [x0, x1, x2], _ =>
  match cs, hl with
  | [c0, c1, c2, c3, c4, c5, c6, c7, c8, c9, c10, c11], _ =>
    have u0 := hi 0 (by decide)
    have u1 := hi 1 (by decide)
    have u2 := hi 2 (by decide)
    simp only [Qau, Nat.zero_mul, Nat.one_mul, Nat.reduceMul, List.drop, List.take, List.getElem?_cons_zero, List.getElem?_cons_succ] at u0 u1 u2
    obtain ⟨p0, w0, e0⟩ := Zp6 u0
    obtain ⟨p1, w1, e1⟩ := Zp6 u1
    obtain ⟨p2, w2, e2⟩ := Zp6 u2
    simp only [List.cons.injEq, and_true] at e0
    obtain ⟨rfl, rfl, rfl, rfl⟩ := e0
    simp only [List.cons.injEq, and_true] at e1
    obtain ⟨rfl, rfl, rfl, rfl⟩ := e1
    simp only [List.cons.injEq, and_true] at e2
    obtain ⟨rfl, rfl, rfl, rfl⟩ := e2
    exact ⟨p0, p1, p2, w0, w1, w2, rfl⟩
theorem Zun {sp : Nat → Bool} {fuel : Nat} {cs : List Value} {x : DataW H × List MemPlace} (hl : cs.length = 35) (h : DataW.trod enc Tryz.prog W 0 sp true fuel 32 cs = some x) :
    ∃ (two : Bool) (k0 k1 k2 : Int × Int) (p0 p1 p2 : (Int × Int) × (Int × Int)) (v0 v1 v2 v3 v4 v5 : Int × Int) (pm : (Int × Int) × (Int × Int)), (OkQ k0 ∧ OkQ k1 ∧ OkQ k2) ∧ (OkP p0 ∧ OkP p1 ∧ OkP p2) ∧ (OkQ v0 ∧ OkQ v1 ∧ OkQ v2 ∧ OkQ v3 ∧ OkQ v4 ∧ OkQ v5) ∧ OkP pm ∧
      cs = [.bool two, .int .i64 k0.1, .int .u32 k0.2, .int .i64 k1.1, .int .u32 k1.2, .int .i64 k2.1, .int .u32 k2.2, .int .i64 p0.1.1, .int .u32 p0.1.2, .int .i64 p0.2.1, .int .u32 p0.2.2, .int .i64 p1.1.1, .int .u32 p1.1.2, .int .i64 p1.2.1, .int .u32 p1.2.2, .int .i64 p2.1.1, .int .u32 p2.1.2, .int .i64 p2.2.1, .int .u32 p2.2.2, .int .i64 v0.1, .int .u32 v0.2, .int .i64 v1.1, .int .u32 v1.2, .int .i64 v2.1, .int .u32 v2.2, .int .i64 v3.1, .int .u32 v3.2, .int .i64 v4.1, .int .u32 v4.2, .int .i64 v5.1, .int .u32 v5.2, .int .i64 pm.1.1, .int .u32 pm.1.2, .int .i64 pm.2.1, .int .u32 pm.2.2] := by
  obtain ⟨xs, n, _, _, _, hlen, hf⟩ := DataW.trod_struct Tryz.underlying32 h
  match xs, hlen with
  | [y0, y1, y2, y3, y4], _ =>
    have u0 : DataW.trod enc Tryz.prog W 0 sp true n 4 ((cs.drop 0).take (Tryz.prog.cellsOf 4)) = some y0 := hf 0 _ rfl
    rw [cellsB] at u0
    have u1 : DataW.trod enc Tryz.prog W 0 sp true n 25 ((cs.drop 1).take (Tryz.prog.cellsOf 25)) = some y1 := hf 1 _ rfl
    rw [cellsK] at u1
    have u2 : DataW.trod enc Tryz.prog W 0 sp true n 29 ((cs.drop 7).take (Tryz.prog.cellsOf 29)) = some y2 := hf 2 _ rfl
    rw [cellsT] at u2
    have u3 : DataW.trod enc Tryz.prog W 0 sp true n 30 ((cs.drop 19).take (Tryz.prog.cellsOf 30)) = some y3 := hf 3 _ rfl
    rw [cellsV] at u3
    have u4 : DataW.trod enc Tryz.prog W 0 sp true n 27 ((cs.drop 31).take (Tryz.prog.cellsOf 27)) = some y4 := hf 4 _ rfl
    rw [Qau] at u4
    obtain ⟨two, e0, _⟩ := DataW.trod_bool Tryz.underlying4 u0
    obtain ⟨k0, k1, k2, a0, a1, a2, e1⟩ := read_k (by rw [List.length_take, List.length_drop, hl]; decide) u1
    obtain ⟨p0, p1, p2, b0, b1, b2, e2⟩ := read_t (by rw [List.length_take, List.length_drop, hl]; decide) u2
    obtain ⟨v0, v1, v2, v3, v4, v5, d0, d1, d2, d3, d4, d5, e3⟩ := read_v (by rw [List.length_take, List.length_drop, hl]; decide) u3
    have hl4 : ((cs.drop 31).take 4).length = 4 := by rw [List.length_take, List.length_drop, hl]; decide
    obtain ⟨pm, g0, e4⟩ : ∃ pm : (Int × Int) × (Int × Int), OkP pm ∧ (cs.drop 31).take 4 = [.int .i64 pm.1.1, .int .u32 pm.1.2, .int .i64 pm.2.1, .int .u32 pm.2.2] := by
      generalize hc4 : (cs.drop 31).take 4 = c4 at u4 hl4
      match c4, hl4 with
      | [z0, z1, z2, z3], _ => exact Zp6 u4
    refine ⟨two, k0, k1, k2, p0, p1, p2, v0, v1, v2, v3, v4, v5, pm, ⟨a0, a1, a2⟩, ⟨b0, b1, b2⟩, ⟨d0, d1, d2, d3, d4, d5⟩, g0, ?_⟩
    have s0 := List.take_append_drop 1 cs
    have s1 := List.take_append_drop 6 (cs.drop 1)
    have s2 := List.take_append_drop 12 (cs.drop 7)
    have s3 := List.take_append_drop 12 (cs.drop 19)
    have s4 := List.take_append_drop 4 (cs.drop 31)
    rw [List.drop_drop] at s1 s2 s3 s4
    have hz : cs.drop (31 + 4) = [] := List.drop_eq_nil_of_le (by rw [hl]; decide)
    rw [hz, e4] at s4
    rw [show (19 + 12 : Nat) = 31 from rfl, ← s4, e3] at s3
    rw [show (7 + 12 : Nat) = 19 from rfl, ← s3, e2] at s2
    rw [show (1 + 6 : Nat) = 7 from rfl, ← s2, e1] at s1
    rw [← s1, show cs.take 1 = [Value.bool two] from e0] at s0
    exact s0.symm
end
theorem pair_cells {H : Type} {enc : TypeId × Value → H} {W : World} {base : Nat} {sp : Nat → Bool} {held : Bool} {fuel : Nat} {c0 c1 : Value} {a b : Int} {x : DataW H × List MemPlace}
    (h : DataW.trod enc Tryz.prog W base sp held fuel 163 [c0, c1] = some x) (hx : x.1 = .agg [.lit (.int .i64 a), .lit (.int .i64 b)]) : c0 = .int .i64 a ∧ c1 = .int .i64 b := by
  obtain ⟨xs, m, _, rfl, _, hn, hi⟩ := DataW.trod_array Tryz.underlying163 h
  match xs, hn with
  | [y0, y1], _ =>
    have u0 := hi 0 (by decide)
    have u1 := hi 1 (by decide)
    simp only [cellsN, Nat.zero_mul, Nat.one_mul, List.drop, List.take, List.getElem?_cons_zero, List.getElem?_cons_succ] at u0 u1
    obtain ⟨s, e0, rfl, _⟩ := DataW.trod_int Tryz.underlying3 u0
    obtain ⟨r, e1, rfl, _⟩ := DataW.trod_int Tryz.underlying3 u1
    simp only [List.cons.injEq, and_true] at e0 e1
    simp only [List.map_cons, List.map_nil, DataW.agg.injEq, List.cons.injEq, and_true, DataW.lit.injEq, Lit.int.injEq, true_and] at hx
    obtain ⟨rfl, rfl⟩ := hx
    exact ⟨e0, e1⟩
theorem Zr1 {H : Type} {enc : TypeId × Value → H} {W : World} {base : Nat} {sp : Nat → Bool} {held : Bool} {fuel : Nat} {cs : List Value} {p : List MemPlace}
    (hl : cs.length = 6) (h : DataW.trod enc Tryz.prog W base sp held fuel 164 cs = some (.agg [.agg [.lit (.int .i64 1), .lit (.int .i64 2)], .agg [.lit (.int .i64 2), .lit (.int .i64 0)], .agg [.lit (.int .i64 0), .lit (.int .i64 1)]], p)) :
    cs = [.int .i64 1, .int .i64 2, .int .i64 2, .int .i64 0, .int .i64 0, .int .i64 1] := by
  obtain ⟨xs, m, _, hx, _, hn, hi⟩ := DataW.trod_array Tryz.underlying164 h
  match xs, hn with
  | [x0, x1, x2], _ =>
  match cs, hl with
  | [c0, c1, c2, c3, c4, c5], _ =>
    have u0 := hi 0 (by decide)
    have u1 := hi 1 (by decide)
    have u2 := hi 2 (by decide)
    simp only [cells2, Nat.zero_mul, Nat.one_mul, Nat.reduceMul, List.drop, List.take, List.getElem?_cons_zero, List.getElem?_cons_succ] at u0 u1 u2
    have hy := congrArg Prod.fst hx
    simp only [List.map_cons, List.map_nil, DataW.agg.injEq, List.cons.injEq, and_true] at hy
    obtain ⟨h0, h1, h2⟩ := hy
    obtain ⟨rfl, rfl⟩ := pair_cells u0 h0.symm
    obtain ⟨rfl, rfl⟩ := pair_cells u1 h1.symm
    obtain ⟨rfl, rfl⟩ := pair_cells u2 h2.symm
    rfl
theorem sidesF (W : World) (hL : laidMetH Tryz.prog Rows.localsMovedRow.laid W) : SideF.p (fun _ => False) W := by
  have hl : laidMet Tryz.prog Rows.localsMovedRow.laid W := hL
  obtain ⟨ps, ⟨_, _, _, _, _, _, _, _, _, _, ⟨_, _, _, _, _, _, _, _, _, _, ⟨_, _, _, _, _, _, _, _, _, _, ⟨g', t', cs, fuel, p, q, hg', ht', hvar, hd, _, _⟩, _⟩, _⟩, _⟩, _⟩ := hl
  have hg : Tryz.prog.globalNamed "gusset/shapes.sides" = some g' := hg'
  obtain rfl : g' = 0 := Option.some.inj (hg.symm.trans (by kernel_rfl))
  obtain rfl := Option.some.inj (ht'.symm.trans (show (Tryz.prog.globals[0]?).map (·.type) = some 164 by kernel_rfl))
  obtain ⟨_, _, _, _, hlen, _, _⟩ := DataW.trod_array Tryz.underlying164 hd
  have e := Zr1 (by rw [hlen]; kernel_rfl) hd
  intro hne
  have h2 : W.var? Tryz.prog "gusset/shapes.sides" = some cs := hvar
  unfold World.var? at h2
  simp only [hg, Option.bind_some] at h2
  split at h2
  · rename_i c T fr hc
    obtain rfl := Option.some.inj h2
    refine ⟨0, 0, c, T, fr, rfl, id, hc, fun j hj => ?_⟩
    rw [← e, Nat.zero_add]
    simp
  · cases h2
def witC : Value := .agg #[.bool false, .int .i64 0, .int .u32 0, .int .i64 0, .int .u32 0, .int .i64 0, .int .u32 0, .int .i64 0, .int .u32 0, .int .i64 0, .int .u32 0, .int .i64 0, .int .u32 0, .int .i64 0, .int .u32 0, .int .i64 0, .int .u32 0, .int .i64 0, .int .u32 0, .int .i64 0, .int .u32 0, .int .i64 0, .int .u32 0, .int .i64 0, .int .u32 0, .int .i64 0, .int .u32 0, .int .i64 0, .int .u32 0, .int .i64 0, .int .u32 0, .int .i64 0, .int .u32 0, .int .i64 0, .int .u32 0]
theorem contract (H : Type) (enc : TypeId × Value → H) (W : World) (base : Nat) (args : Array Value) (ds gs : List (DataW H)) (before : List MemPlace)
    (hval : ∀ (j : Nat) t v, Tryz.f4.params[j]? = some t → args[j]? = some v → Value.okWide Tryz.prog W .any base t v)
    (hW : DataW.Whole enc Tryz.prog Tryz.f4.params.toList Rows.localsMovedSpec.vars false W args.toList ds gs before) (hL : laidMetH Tryz.prog Rows.localsMovedRow.laid W) :
    Calls Tryz.prog 4 args W fun e W' => ∃ v, e = .returned v ∧ Rows.localsMovedSpec.post enc Tryz.prog Tryz.f4 false true false false W args v W' := by
  have hW' := hW
  obtain ⟨p, q, hA0, hV, rfl, hfz, hnd⟩ := hW
  have hA : DataW.TrodAll enc Tryz.prog W 0 (fun _ => true) true Tryz.f4.params.toList args.toList ds p := hA0
  rw [Tryz.params4] at hA hval
  obtain ⟨v0, vs0, d0, ds0, p0, pq0, hargs, rfl, rfl, h0, r0⟩ := trodAll_cons hA
  obtain ⟨rfl, rfl, rfl⟩ := trodAll_nil r0
  obtain rfl : args = #[v0] := by cases args; simp_all
  obtain ⟨rfl, rfl⟩ := trodVars_none hV
  obtain ⟨cs0, rfl, hsz0⟩ := okWide_struct Tryz.underlying32 (hval 0 32 v0 rfl rfl)
  clear hA0
  simp only [List.append_nil, List.nil_append] at hW'
  have hlt0 : ∀ x ∈ p0, x.block < W.heap.size := fun x hx => by simpa using hW'.lt x (by simp [hx])
  have walk : Calls Tryz.prog 4 #[.agg cs0] W fun e w' => e = .returned (.bool true) ∧ Below W.heap.size W w' := by
    rw [cellsC] at hsz0
    obtain ⟨fu0, hf0⟩ := h0
    obtain ⟨two, k0, k1, k2, p0, p1, p2, v0, v1, v2, v3, v4, v5, pm, ⟨a0, a1, a2⟩, ⟨b0, b1, b2⟩, ⟨d0, d1, d2, d3, d4, d5⟩, g0, hcs⟩ := Zun (cs := cs0.toList) (by simpa using hsz0) hf0
    obtain rfl : cs0 = #[.bool two, .int .i64 k0.1, .int .u32 k0.2, .int .i64 k1.1, .int .u32 k1.2, .int .i64 k2.1, .int .u32 k2.2, .int .i64 p0.1.1, .int .u32 p0.1.2, .int .i64 p0.2.1, .int .u32 p0.2.2, .int .i64 p1.1.1, .int .u32 p1.1.2, .int .i64 p1.2.1, .int .u32 p1.2.2, .int .i64 p2.1.1, .int .u32 p2.1.2, .int .i64 p2.2.1, .int .u32 p2.2.2, .int .i64 v0.1, .int .u32 v0.2, .int .i64 v1.1, .int .u32 v1.2, .int .i64 v2.1, .int .u32 v2.2, .int .i64 v3.1, .int .u32 v3.2, .int .i64 v4.1, .int .u32 v4.2, .int .i64 v5.1, .int .u32 v5.2, .int .i64 pm.1.1, .int .u32 pm.1.2, .int .i64 pm.2.1, .int .u32 pm.2.2] := Array.ext' hcs
    have hC : Gh Tryz.prog 4 [.agg #[.bool two, .int .i64 k0.1, .int .u32 k0.2, .int .i64 k1.1, .int .u32 k1.2, .int .i64 k2.1, .int .u32 k2.2, .int .i64 p0.1.1, .int .u32 p0.1.2, .int .i64 p0.2.1, .int .u32 p0.2.2, .int .i64 p1.1.1, .int .u32 p1.1.2, .int .i64 p1.2.1, .int .u32 p1.2.2, .int .i64 p2.1.1, .int .u32 p2.1.2, .int .i64 p2.2.1, .int .u32 p2.2.2, .int .i64 v0.1, .int .u32 v0.2, .int .i64 v1.1, .int .u32 v1.2, .int .i64 v2.1, .int .u32 v2.2, .int .i64 v3.1, .int .u32 v3.2, .int .i64 v4.1, .int .u32 v4.2, .int .i64 v5.1, .int .u32 v5.2, .int .i64 pm.1.1, .int .u32 pm.1.2, .int .i64 pm.2.1, .int .u32 pm.2.2]] [SideF] (.bool true) := by
      cases two
      · exact Zjr k0 k1 k2 p0 p1 p2 v0 v1 v2 v3 v4 v5 pm a0 a1 a2 b0 b1 b2 d0 d1 d2 d3 d4 d5 g0
      · exact Zjq k0 k1 k2 p0 p1 p2 v0 v1 v2 v3 v4 v5 pm a0 a1 a2 b0 b1 b2 d0 d1 d2 d3 d4 d5 g0
    have hc := hC (fun _ => False) W (fun _ h => h.elim) (fun R hR => by rw [List.mem_singleton.1 hR]; exact sidesF W hL)
    exact Calls.mono hc (fun e w' ⟨v, Ψ, h1, ⟨h2, _⟩, h3, _⟩ => ⟨by rw [h1, h2], h3⟩)
  refine walk.mono fun e W' ⟨he, hb⟩ => ?_
  subst he
  refine ⟨_, rfl, _, _, _, [], (p0 ++ []), [], hW', ?_, ?_, ?_, ?_, fun h => by cases h⟩
  · exact trodAll_cons_mk (shut_bool Tryz.underlying4 _) trodAll_mk0
  · exact trodAll_cons_mk (Below.trod laidOut (by kernel_rfl) (of_decide_eq_true (by kernel_rfl)) h0 hb hlt0) trodAll_mk0
  · exact rfl
  · exact World.keptBut_mono (fun _ f => f.elim) (hb.frame (fun _ => False))
noncomputable def laidWorld (os : Os) : World :=
  { World.holding Tryz.prog os ⟨#[], #[], []⟩ with heap := (((((World.holding Tryz.prog os ⟨#[], #[], []⟩).heap.modify 4 fun
      | .cells _ t frozen => .cells #[.int .u8 0, .int .u8 1, .int .u8 28, .int .u8 2, .int .u8 29, .int .u8 14, .int .u8 24, .int .u8 3, .int .u8 30, .int .u8 22, .int .u8 20, .int .u8 15, .int .u8 25, .int .u8 17, .int .u8 4, .int .u8 8, .int .u8 31, .int .u8 27, .int .u8 13, .int .u8 23, .int .u8 21, .int .u8 19, .int .u8 16, .int .u8 7, .int .u8 26, .int .u8 12, .int .u8 18, .int .u8 6, .int .u8 11, .int .u8 5, .int .u8 10, .int .u8 9] t frozen
      | o => o).modify 5 fun
      | .cells _ t frozen => .cells #[.int .u8 0, .int .u8 1, .int .u8 56, .int .u8 2, .int .u8 57, .int .u8 49, .int .u8 28, .int .u8 3, .int .u8 61, .int .u8 58, .int .u8 42, .int .u8 50, .int .u8 38, .int .u8 29, .int .u8 17, .int .u8 4, .int .u8 62, .int .u8 47, .int .u8 59, .int .u8 36, .int .u8 45, .int .u8 43, .int .u8 51, .int .u8 22, .int .u8 53, .int .u8 39, .int .u8 33, .int .u8 30, .int .u8 24, .int .u8 18, .int .u8 12, .int .u8 5, .int .u8 63, .int .u8 55, .int .u8 48, .int .u8 27, .int .u8 60, .int .u8 41, .int .u8 37, .int .u8 16, .int .u8 46, .int .u8 35, .int .u8 44, .int .u8 21, .int .u8 52, .int .u8 32, .int .u8 23, .int .u8 11, .int .u8 54, .int .u8 26, .int .u8 40, .int .u8 15, .int .u8 34, .int .u8 20, .int .u8 31, .int .u8 10, .int .u8 25, .int .u8 14, .int .u8 19, .int .u8 9, .int .u8 13, .int .u8 8, .int .u8 7, .int .u8 6] t frozen
      | o => o).modify 2 fun
      | .cells _ t frozen => .cells #[.int .u64 1, .int .u64 10, .int .u64 100, .int .u64 1000, .int .u64 10000, .int .u64 100000, .int .u64 1000000, .int .u64 10000000, .int .u64 100000000, .int .u64 1000000000, .int .u64 10000000000, .int .u64 100000000000, .int .u64 1000000000000, .int .u64 10000000000000, .int .u64 100000000000000, .int .u64 1000000000000000, .int .u64 10000000000000000, .int .u64 100000000000000000, .int .u64 1000000000000000000, .int .u64 10000000000000000000] t frozen
      | o => o).modify 0 fun
      | .cells _ t frozen => .cells #[.int .i64 1, .int .i64 2, .int .i64 2, .int .i64 0, .int .i64 0, .int .i64 1] t frozen
      | o => o) }
theorem laid_met (os : Os) : laidMet Tryz.prog Rows.localsMovedRow.laid ((laidWorld os).forCall (fun _ _ => 0) ⟨#[], #[witC], []⟩).memory :=
  laidMet_of_run' 128 (by kernel_rfl) (by kernel_rfl)
theorem reads (os : Os) {H : Type} (enc : TypeId × Value → H) : ∃ places, DataW.whole enc Tryz.prog ((laidWorld os).forCall (fun _ _ => 0) ⟨#[], #[witC], []⟩).memory Tryz.f4.params.toList Rows.localsMovedSpec.vars false #[witC].toList 8 = some ([.agg [.lit (.bool false), .agg [.agg [.lit (.int .i64 0), .lit (.int .u32 0)], .agg [.lit (.int .i64 0), .lit (.int .u32 0)], .agg [.lit (.int .i64 0), .lit (.int .u32 0)]], .agg [.agg [.agg [.lit (.int .i64 0), .lit (.int .u32 0)], .agg [.lit (.int .i64 0), .lit (.int .u32 0)]], .agg [.agg [.lit (.int .i64 0), .lit (.int .u32 0)], .agg [.lit (.int .i64 0), .lit (.int .u32 0)]], .agg [.agg [.lit (.int .i64 0), .lit (.int .u32 0)], .agg [.lit (.int .i64 0), .lit (.int .u32 0)]]], .agg [.agg [.lit (.int .i64 0), .lit (.int .u32 0)], .agg [.lit (.int .i64 0), .lit (.int .u32 0)], .agg [.lit (.int .i64 0), .lit (.int .u32 0)], .agg [.lit (.int .i64 0), .lit (.int .u32 0)], .agg [.lit (.int .i64 0), .lit (.int .u32 0)], .agg [.lit (.int .i64 0), .lit (.int .u32 0)]], .agg [.agg [.lit (.int .i64 0), .lit (.int .u32 0)], .agg [.lit (.int .i64 0), .lit (.int .u32 0)]]]], [], places) :=
  ⟨[], by kernel_rfl⟩
set_option maxRecDepth 100000 in
theorem lifted (os : Os) (started : os.Started) (H : Type) (enc : TypeId × Value → H) (F : Stop.Interp) :
    ReturnsInHanded {} Tryz.checked os 4 .any ((OpenSpec.ofChange Rows.localsMovedSpec).preRow enc Tryz.prog Tryz.f4 Rows.localsMovedRow.domain false Rows.localsMovedRow.laid) (((OpenSpec.ofChange Rows.localsMovedSpec).at F).post enc Tryz.prog Tryz.f4 false true false false) := by
  obtain ⟨places, hx⟩ := reads os enc
  refine returnsInHanded_of_row (C := Tryz.checked) (s := OpenSpec.ofChange Rows.localsMovedSpec) own started (by kernel_rfl) Tryz.func4
    (witness_row_at (enc := enc) (C := Tryz.checked) false (laidWorld os) #[witC] rfl (by kernel_rfl) (by kernel_rfl) (by kernel_rfl)
      (OpenSpec.preRow_of_cond 8 hx (by kernel_rfl) (fun k hk => by cases hk) (by kernel_rfl) (laid_met os))) ?_
  intro W base args ds gs before hval hW _ _ _ hL _ _
  exact contract H enc W base args ds gs before hval hW hL
theorem said : Rows.LocalsMovedSaid :=
  OpenClaim.holds_of_cond 4 Tryz.f4 rfl rfl rfl rfl rfl rfl rfl ⟨rfl, rfl, rfl, rfl, rfl⟩ rfl rfl rfl rfl rfl (by kernel_rfl) Tryz.func4 (by kernel_rfl)
    (of_decide_eq_true (by kernel_rfl)) (by unfold Func.isWrapper; first | (rw [if_pos (by decide +kernel)]; kernel_rfl) | (rw [if_neg (by decide +kernel)]; exact ⟨rfl, rfl⟩))
    (fun os started H enc _ F => by rw [OpenClaim.pre_eq_preRow]; exact lifted os started H enc F)
theorem plain (f : FuncId) (fn : Func) (hf : Tryz.pinned.checked.prog.funcNamed "gusset/gussetlaw37.LocalsMoved" = some f) (hfn : Tryz.pinned.checked.prog.funcs[f]? = some fn) :
    false = Tryz.pinned.checked.prog.looks [] ∧ ∀ (j : Nat) t, fn.params[j]? = some t → Tryz.pinned.checked.prog.wantsStandIn t = false := by
  obtain rfl : f = 4 := Option.some.inj ((show Tryz.prog.funcNamed "gusset/gussetlaw37.LocalsMoved" = some 4 by kernel_rfl).symm.trans hf) |>.symm
  obtain rfl : fn = Tryz.f4 := (Option.some.inj (Tryz.func4.symm.trans hfn)).symm
  refine ⟨by kernel_rfl, fun j t ht => ?_⟩
  rw [Tryz.params4] at ht
  have ht2 := Array.mem_of_getElem? ht
  have s32 : Tryz.pinned.checked.prog.wantsStandIn 32 = false := by kernel_rfl
  simp only [List.mem_toArray, List.mem_cons, List.not_mem_nil, or_false] at ht2
  rcases ht2 with rfl <;> assumption
theorem card : Rows.LocalsMovedCardSaid :=
  Claim7.holds_tied_plain_at .later [] _ _ _ _ said (fun _ h => by cases h) (by kernel_rfl) (fun _ h => by cases h) localsMoved_row_tie rfl ⟨rfl, rfl⟩ (by kernel_rfl) rfl plain (by kernel_rfl)
#print axioms card
end Go.Proofs.YthcjdeklpegceaaGreatDoor.fnLocalsMoved
