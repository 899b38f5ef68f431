/- Written by a program of ours (gen.py) out of short specifications. By an AI agent. -/
import Derived.Test.YtealgpgmbflilaaGreatDoorLaw08c
set_option linter.unusedVariables false
set_option linter.unusedSimpArgs false
set_option maxRecDepth 4000
namespace Go.Proofs.YtealgpgmbflilaaGreatDoor
open Go Go.Proofs Go.Fx
attribute [local irreducible] Oper.wp Code.wp wpList Fx.Head wpOp
theorem ixv_106 (b off j : Nat) (h : j < 6) (w : World) : (Instr.indexAt 106 (.pointer (some ⟨b, off, none⟩)) (.int .i64 (j : Int))).run Tryz.prog w = .ok (.pointer (some ⟨b, off + j * 2, none⟩)) w := indexAt_arr Tryz.runUnderlying106 Tryz.sizeOf25 b off j h w
theorem ixv_107 (b off j : Nat) (h : j < 6) (w : World) : (Instr.indexAt 107 (.pointer (some ⟨b, off, none⟩)) (.int .i64 (j : Int))).run Tryz.prog w = .ok (.pointer (some ⟨b, off + j * 5, none⟩)) w := indexAt_arr Tryz.runUnderlying107 Tryz.sizeOf44 b off j h w
theorem ixc_107_0 (b off : Nat) (w : World) : (Instr.indexAt 107 (.pointer (some ⟨b, off, none⟩)) (.int .i64 0)).run Tryz.prog w = .ok (.pointer (some ⟨b, off + 0, none⟩)) w := by
  simp [go_sem, Instr.indexAt]
theorem rd_30_0_5 (c0 c1 c2 c3 c4 c5 c6 c7 c8 c9 c10 c11 c12 c13 c14 c15 c16 c17 c18 c19 c20 c21 c22 c23 c24 c25 c26 c27 c28 c29 : Value) : readAt true 5 #[c0, c1, c2, c3, c4, c5, c6, c7, c8, c9, c10, c11, c12, c13, c14, c15, c16, c17, c18, c19, c20, c21, c22, c23, c24, c25, c26, c27, c28, c29] 0 = some (.agg #[c0, c1, c2, c3, c4]) := rfl
theorem ixc_107_1 (b off : Nat) (w : World) : (Instr.indexAt 107 (.pointer (some ⟨b, off, none⟩)) (.int .i64 1)).run Tryz.prog w = .ok (.pointer (some ⟨b, off + 5, none⟩)) w := by
  simp [go_sem, Instr.indexAt]
theorem rd_30_5_5 (c0 c1 c2 c3 c4 c5 c6 c7 c8 c9 c10 c11 c12 c13 c14 c15 c16 c17 c18 c19 c20 c21 c22 c23 c24 c25 c26 c27 c28 c29 : Value) : readAt true 5 #[c0, c1, c2, c3, c4, c5, c6, c7, c8, c9, c10, c11, c12, c13, c14, c15, c16, c17, c18, c19, c20, c21, c22, c23, c24, c25, c26, c27, c28, c29] 5 = some (.agg #[c5, c6, c7, c8, c9]) := rfl
theorem ixc_107_2 (b off : Nat) (w : World) : (Instr.indexAt 107 (.pointer (some ⟨b, off, none⟩)) (.int .i64 2)).run Tryz.prog w = .ok (.pointer (some ⟨b, off + 10, none⟩)) w := by
  simp [go_sem, Instr.indexAt]
theorem rd_30_10_5 (c0 c1 c2 c3 c4 c5 c6 c7 c8 c9 c10 c11 c12 c13 c14 c15 c16 c17 c18 c19 c20 c21 c22 c23 c24 c25 c26 c27 c28 c29 : Value) : readAt true 5 #[c0, c1, c2, c3, c4, c5, c6, c7, c8, c9, c10, c11, c12, c13, c14, c15, c16, c17, c18, c19, c20, c21, c22, c23, c24, c25, c26, c27, c28, c29] 10 = some (.agg #[c10, c11, c12, c13, c14]) := rfl
theorem ixc_107_3 (b off : Nat) (w : World) : (Instr.indexAt 107 (.pointer (some ⟨b, off, none⟩)) (.int .i64 3)).run Tryz.prog w = .ok (.pointer (some ⟨b, off + 15, none⟩)) w := by
  simp [go_sem, Instr.indexAt]
theorem rd_30_15_5 (c0 c1 c2 c3 c4 c5 c6 c7 c8 c9 c10 c11 c12 c13 c14 c15 c16 c17 c18 c19 c20 c21 c22 c23 c24 c25 c26 c27 c28 c29 : Value) : readAt true 5 #[c0, c1, c2, c3, c4, c5, c6, c7, c8, c9, c10, c11, c12, c13, c14, c15, c16, c17, c18, c19, c20, c21, c22, c23, c24, c25, c26, c27, c28, c29] 15 = some (.agg #[c15, c16, c17, c18, c19]) := rfl
theorem ixc_107_4 (b off : Nat) (w : World) : (Instr.indexAt 107 (.pointer (some ⟨b, off, none⟩)) (.int .i64 4)).run Tryz.prog w = .ok (.pointer (some ⟨b, off + 20, none⟩)) w := by
  simp [go_sem, Instr.indexAt]
theorem rd_30_20_5 (c0 c1 c2 c3 c4 c5 c6 c7 c8 c9 c10 c11 c12 c13 c14 c15 c16 c17 c18 c19 c20 c21 c22 c23 c24 c25 c26 c27 c28 c29 : Value) : readAt true 5 #[c0, c1, c2, c3, c4, c5, c6, c7, c8, c9, c10, c11, c12, c13, c14, c15, c16, c17, c18, c19, c20, c21, c22, c23, c24, c25, c26, c27, c28, c29] 20 = some (.agg #[c20, c21, c22, c23, c24]) := rfl
theorem ixc_107_5 (b off : Nat) (w : World) : (Instr.indexAt 107 (.pointer (some ⟨b, off, none⟩)) (.int .i64 5)).run Tryz.prog w = .ok (.pointer (some ⟨b, off + 25, none⟩)) w := by
  simp [go_sem, Instr.indexAt]
theorem rd_30_25_5 (c0 c1 c2 c3 c4 c5 c6 c7 c8 c9 c10 c11 c12 c13 c14 c15 c16 c17 c18 c19 c20 c21 c22 c23 c24 c25 c26 c27 c28 c29 : Value) : readAt true 5 #[c0, c1, c2, c3, c4, c5, c6, c7, c8, c9, c10, c11, c12, c13, c14, c15, c16, c17, c18, c19, c20, c21, c22, c23, c24, c25, c26, c27, c28, c29] 25 = some (.agg #[c25, c26, c27, c28, c29]) := rfl
theorem bs_146_3_0_1_2 (x0_0 : Value) (x0_1 : Value) (x0_2 : Value) (x0_3 : Value) (x0_4 : Value) (x1_0 : Value) (x1_1 : Value) (x1_2 : Value) (x1_3 : Value) (x1_4 : Value) (x2_0 : Value) (x2_1 : Value) (x2_2 : Value) (x2_3 : Value) (x2_4 : Value) (w : World) : (Instr.buildSlice 146 3 [(0, .agg #[x0_0, x0_1, x0_2, x0_3, x0_4]), (1, .agg #[x1_0, x1_1, x1_2, x1_3, x1_4]), (2, .agg #[x2_0, x2_1, x2_2, x2_3, x2_4])].toArray).run Tryz.prog w = .ok (.slice (some ⟨w.heap.size, 0, none⟩) 3 3) (w.alloc (.cells #[x0_0, x0_1, x0_2, x0_3, x0_4, x1_0, x1_1, x1_2, x1_3, x1_4, x2_0, x2_1, x2_2, x2_3, x2_4] 44 (0, 0))) := by
  simp [go_sem]
abbrev encA6 (a b c d e f : Rat) : Value := .agg #[.int .u64 (lowN a.num.natAbs), .string (bigN a.num.natAbs), .bool (decide (a.num < 0)), .int .u64 (lowN (a.den - 1)), .string (bigN (a.den - 1)), .int .u64 (lowN b.num.natAbs), .string (bigN b.num.natAbs), .bool (decide (b.num < 0)), .int .u64 (lowN (b.den - 1)), .string (bigN (b.den - 1)), .int .u64 (lowN c.num.natAbs), .string (bigN c.num.natAbs), .bool (decide (c.num < 0)), .int .u64 (lowN (c.den - 1)), .string (bigN (c.den - 1)), .int .u64 (lowN d.num.natAbs), .string (bigN d.num.natAbs), .bool (decide (d.num < 0)), .int .u64 (lowN (d.den - 1)), .string (bigN (d.den - 1)), .int .u64 (lowN e.num.natAbs), .string (bigN e.num.natAbs), .bool (decide (e.num < 0)), .int .u64 (lowN (e.den - 1)), .string (bigN (e.den - 1)), .int .u64 (lowN f.num.natAbs), .string (bigN f.num.natAbs), .bool (decide (f.num < 0)), .int .u64 (lowN (f.den - 1)), .string (bigN (f.den - 1))]
abbrev encS6 (s0 s1 s2 s3 s4 s5 : Int × Int) : Value := .agg #[.int .i64 s0.1, .int .u32 s0.2, .int .i64 s1.1, .int .u32 s1.2, .int .i64 s2.1, .int .u32 s2.2, .int .i64 s3.1, .int .u32 s3.2, .int .i64 s4.1, .int .u32 s4.2, .int .i64 s5.1, .int .u32 s5.2]
theorem zero6 (w : World) : (zeroValue 107).run Tryz.prog w = .ok (.agg (cellsOf encQ (List.replicate 6 (0 : Rat))).toArray) w := Tryz.zeroValue107 w
/-- The first i numbers made. -/
def c6 (ss : List (Int × Int)) : Nat → List Rat
  | 0 => List.replicate 6 0
  | i + 1 => (c6 ss i).set i (qv (ss.getD i (0, 0)).1 (ss.getD i (0, 0)).2)
theorem c6_len (ss : List (Int × Int)) : ∀ i, (c6 ss i).length = 6
  | 0 => rfl
  | i + 1 => by rw [c6, List.length_set, c6_len ss i]
theorem c6_cells (s0 s1 s2 s3 s4 s5 : Int × Int) : (cellsOf encQ (c6 [s0, s1, s2, s3, s4, s5] 6)).toArray = Value.cells (encA6 (qv s0.1 s0.2) (qv s1.1 s1.2) (qv s2.1 s2.2) (qv s3.1 s3.2) (qv s4.1 s4.2) (qv s5.1 s5.2)) := rfl
theorem s6_cells (s0 s1 s2 s3 s4 s5 : Int × Int) : Value.cells (encS6 s0 s1 s2 s3 s4 s5) = (cellsOf encQ2 [s0, s1, s2, s3, s4, s5]).toArray := rfl
theorem sum3K {x y z : Rat} {a b c : Nat} (h1 : lenQ x ≤ a) (h2 : lenQ y ≤ b) (h3 : lenQ z ≤ c) : lenQ ([x, y, z].foldl (· + ·) 0) ≤ a + b + c + 5 := by
  simp only [List.foldl_cons, List.foldl_nil]
  have := lenQ_zero
  have a1 := lenQ_add 0 x
  have a2 := lenQ_add (0 + x) y
  have a3 := lenQ_add (0 + x + y) z
  omega
theorem all3 {x y z : Rat} {K : Nat} (h1 : lenQ x ≤ K) (h2 : lenQ y ≤ K) (h3 : lenQ z ≤ K) : ∀ w ∈ [x, y, z], lenQ w ≤ K := fun w hw => by
  simp only [List.mem_cons, List.not_mem_nil, or_false] at hw
  rcases hw with rfl | rfl | rfl <;> assumption

set_option maxHeartbeats 1000000 in
theorem C_PolysShifts (l : List Ti) (ad : Option Addr) (c : Nat) (hokl : ∀ t ∈ l, OkT t) (hln : l.length ≤ 9223372036854775807) (qx qy s0 s1 s2 s3 s4 s5 qu qw : Int × Int) (hqx : OkQ qx) (hqy : OkQ qy) (hs : ∀ q ∈ [s0, s1, s2, s3, s4, s5], OkQ q) (hqu : OkQ qu) (hqw : OkQ qw) : CtrW Tryz.prog 13 [.slice ad l.length c, encQ2 qx, encQ2 qy, encS6 s0 s1 s2 s3 s4 s5, encQ2 qu, encQ2 qw] [Row ad (cellsOf encTi l)] (.bool true) := by
  have hlx : lenQ (qv qx.1 qx.2) ≤ 4 := lenQ_qvp hqx
  have hly : lenQ (qv qy.1 qy.2) ≤ 4 := lenQ_qvp hqy
  have hlu : lenQ (qv qu.1 qu.2) ≤ 4 := lenQ_qvp hqu
  have hlw : lenQ (qv qw.1 qw.2) ≤ 4 := lenQ_qvp hqw
  have hn0 : lenQ (qv s0.1 s0.2) ≤ 4 := lenQ_qvp (hs s0 (by simp))
  have hn1 : lenQ (qv s1.1 s1.2) ≤ 4 := lenQ_qvp (hs s1 (by simp))
  have hn2 : lenQ (qv s2.1 s2.2) ≤ 4 := lenQ_qvp (hs s2 (by simp))
  have hn3 : lenQ (qv s3.1 s3.2) ≤ 4 := lenQ_qvp (hs s3 (by simp))
  have hn4 : lenQ (qv s4.1 s4.2) ≤ 4 := lenQ_qvp (hs s4 (by simp))
  have hn5 : lenQ (qv s5.1 s5.2) ≤ 4 := lenQ_qvp (hs s5 (by simp))
  obtain ⟨hx1, hx2, hx3, hx4⟩ := hqx
  obtain ⟨hy1, hy2, hy3, hy4⟩ := hqy
  obtain ⟨hu1, hu2, hu3, hu4⟩ := hqu
  obtain ⟨hw1, hw2, hw3, hw4⟩ := hqw
  have hm0a := lenQ_mul (qv s0.1 s0.2) (qv qx.1 qx.2)
  have hm1a := lenQ_mul (qv s1.1 s1.2) (qv qy.1 qy.2)
  have hm3a := lenQ_mul (qv s3.1 s3.2) (qv qx.1 qx.2)
  have hm4a := lenQ_mul (qv s4.1 s4.2) (qv qy.1 qy.2)
  have hm0u := lenQ_mul (qv s0.1 s0.2) (qv qu.1 qu.2)
  have hm1u := lenQ_mul (qv s1.1 s1.2) (qv qw.1 qw.2)
  have hm3u := lenQ_mul (qv s3.1 s3.2) (qv qu.1 qu.2)
  have hm4u := lenQ_mul (qv s4.1 s4.2) (qv qw.1 qw.2)
  refine fn_intro Tryz.func13 rfl Tryz.ntmps13 nb ?_
  intro S w0 a hS h
  refine gC h (zs (zr (zx rfl fun b7 => zx rfl fun b8 => zx rfl fun b9 => ?_))); clear h; intro a w h
  rw [s6_cells] at h
  refine gL h (zx rfl fun b10 => zx rfl fun b11 => za rfl (zn (zs (zs (zr (zm rfl (zp (.builtin [_] rfl (len_slice_22 _ _ _)) (zp (.gtr rfl rfl) ?_)))))))); clear h; intro a w h
  refine by_bool h (fun hc31 h => ?_) (fun hc31 h => ?_)
  · skip
    refine wpList_nil ?_
    change Code.wp _ _ _ _ _
    refine cond_true h rfl ?_
    refine gC h (zs (zr (zv [] rfl Tryz.call37 (C_works8) (za rfl (zn (zt ?_)))))); clear h; intro a w h
    refine retV h (results1 h rfl (.tmp rfl)) ?_
    rfl
  · skip
    have hll : l.length ≤ 6 := by have := of_decide_eq_false hc31; omega
    have hgx := made_Pq (d := 4) hokl hll (by decide) (by decide)
    refine wpList_nil ?_
    change Code.wp _ _ _ _ _
    refine cond_false h rfl ?_
    refine gC h (zk (zs (zr (zm rfl (zf [_, _] rfl Tryz.call26 (C_Made l _ _ 4 8 (by assumption) (by omega) (by omega)) ?_))))); clear h; rintro v34 Ψ34 ⟨ad34, c34, rfl, rfl⟩ a w h
    obtain ⟨G, hnG⟩ : ∃ G, norm (madeL 4 l) = G := ⟨_, rfl⟩
    rw [hnG] at h hgx
    refine gL h (za rfl (zn (zs (zr (zz zero6 fun b14 => zn (zs (zs (zr (za rfl (zn (zb ?_))))))))))); clear h; intro a w h
    refine wp_loop_inv (fun (i : Nat) a w => i ≤ 6 ∧ St 227 S w0 [(7, .pointer (some ⟨b7, 0, none⟩)), (8, .pointer (some ⟨b8, 0, none⟩)), (9, .pointer (some ⟨b9, 0, none⟩)), (10, .pointer (some ⟨b10, 0, none⟩)), (11, .pointer (some ⟨b11, 0, none⟩)), (12, .bool false), (13, .slice ad34 ((G).length) c34), (14, .pointer (some ⟨b14, 0, none⟩)), (15, .int .i64 ((i : Nat) : Int))] [(b14, .cells (cellsOf encQ (c6 [s0, s1, s2, s3, s4, s5] i)).toArray 107 (0, 0)), (b11, .cells (Value.cells (.agg #[.int .i64 qw.1, .int .u32 qw.2])) 25 (0, 0)), (b10, .cells (Value.cells (.agg #[.int .i64 qu.1, .int .u32 qu.2])) 25 (0, 0)), (b9, .cells (cellsOf encQ2 ([s0, s1, s2, s3, s4, s5])).toArray 106 (0, 0)), (b8, .cells (Value.cells (.agg #[.int .i64 qy.1, .int .u32 qy.2])) 25 (0, 0)), (b7, .cells (Value.cells (.agg #[.int .i64 qx.1, .int .u32 qx.2])) 25 (0, 0))] [Row ad34 (cellsOf encT (G)), Row ad (cellsOf encTi l)] a w) (fun i => 6 - i) 0 (⟨Nat.zero_le _, by exact (h).sub (subL ⟨rfl, rfl, rfl, rfl, rfl, rfl, rfl, rfl, rfl, trivial⟩)⟩) ?_; clear h
    rintro i a w ⟨hi_i, h⟩
    refine gC h (zs (zs (zr (zm rfl (zp (.lss rfl rfl) (zn ?_)))))); clear h; intro a w h
    change Code.wp _ _ _ _ _
    refine cond_split h rfl (fun hc36 => ?_) (fun hc36 => ?_)
    · skip
      have hlt_i : i < 6 := by have := of_decide_eq_true hc36; omega
      obtain ⟨hi1, hi2, hi3, hi4⟩ := hs _ (getD_mem [s0, s1, s2, s3, s4, s5] (d := (0, 0)) (show i < 6 by omega))
      refine gC h (zk (zs (zb (zr (zm rfl (zm rfl (zp (.indexAddr rfl rfl (ixv_106 _ _ _ (by omega))) (zd rfl mm Tryz.isAgg25 Tryz.sizeOf25 (read_cells0 (k := 2) (fun _ => rfl) ((fun _ => rfl)) ([s0, s1, s2, s3, s4, s5]) (0, 0) i (by show i < 6; omega)) ?_)))))))); clear h; intro a w h
      refine gL h (zv [_] rfl Tryz.call28 (C_qOf ((([s0, s1, s2, s3, s4, s5]).getD i (0, 0)).1) ((([s0, s1, s2, s3, s4, s5]).getD i (0, 0)).2) (by omega) (by omega) (by omega) (by omega)) ?_); clear h; intro a w h
      have hl43 := lenQ_qv ((([s0, s1, s2, s3, s4, s5]).getD i (0, 0)).1) ((([s0, s1, s2, s3, s4, s5]).getD i (0, 0)).2) (by omega) (by omega) (by omega) (by omega)
      refine gL h (zp (.indexAddr rfl rfl (ixv_107 _ _ _ (by omega))) (zt' (b := b14) (cs := (cellsOf encQ (c6 [s0, s1, s2, s3, s4, s5] i)).toArray) (cs' := (cellsOf encQ ((c6 [s0, s1, s2, s3, s4, s5] i).set i (qv ((([s0, s1, s2, s3, s4, s5]).getD i (0, 0)).1) ((([s0, s1, s2, s3, s4, s5]).getD i (0, 0)).2)))).toArray) (v := encQ (qv ((([s0, s1, s2, s3, s4, s5]).getD i (0, 0)).1) ((([s0, s1, s2, s3, s4, s5]).getD i (0, 0)).2))) rfl rfl (set_cells0 (k := 5) (fun _ => rfl) (c6 [s0, s1, s2, s3, s4, s5] i) i (by rw [c6_len]; omega) (qv ((([s0, s1, s2, s3, s4, s5]).getD i (0, 0)).1) ((([s0, s1, s2, s3, s4, s5]).getD i (0, 0)).2))) uu Tryz.sizeOf44 rfl (cells_le (k := 5) (fun _ => rfl) (c6 [s0, s1, s2, s3, s4, s5] i) i (by rw [c6_len]; omega)) rfl ?_)); clear h; intro a w h
      refine gL h (zn (zr (zm rfl (zp (Pure1.cast (v' := (.int .i64 ((i + 1 : Nat) : Int))) (.add rfl rfl) (by show Value.int _ _ = Value.int _ _; congr 1)) (za rfl (zn ?_)))))); clear h; intro a w h
      exact ⟨i + 1, ⟨by omega, h.sub sA⟩, by omega⟩
    · skip
      have heq_i : 6 = i := by have := of_decide_eq_false hc36; omega
      subst heq_i
      rw [c6_cells] at h
      refine gC h (ze (zs (yD mixed_YtealgpgmbflilaaGreatDoor [0, 2, 1, 3, 4, 5, 6, 7] (floatsOK_of ⟨.inl rfl, .inl rfl, .inl rfl, .inl rfl, .inr ⟨16, 44, _, _, _, rfl, rfl, by decide, _, zeroQ⟩, .inr ⟨17, 44, _, _, _, rfl, rfl, by decide, _, zeroQ⟩, .inl rfl, .inl rfl, trivial⟩) (yd rfl rfl mr Tryz.isAgg25 Tryz.sizeOf25 (rd_2_0_2 _ _) ?_)))); clear h
      refine yd rfl rfl mr Tryz.isAgg25 Tryz.sizeOf25 (rd_2_0_2 _ _) ?_
      refine yv [_] rfl rfl Tryz.call28 (C_qOf qx.1 qx.2 (by omega) (by omega) (by omega) (by omega)) ?_
      have hl46 := lenQ_qv qx.1 qx.2 (by omega) (by omega) (by omega) (by omega)
      refine yv [_] rfl rfl Tryz.call28 (C_qOf qy.1 qy.2 (by omega) (by omega) (by omega) (by omega)) ?_
      have hl48 := lenQ_qv qy.1 qy.2 (by omega) (by omega) (by omega) (by omega)
      refine yz rfl zeroQ fun b16 => yz rfl zeroQ fun b17 => yt rfl rfl rfl (st_5_0_5 _ _ _ _ _ _ _ _ _ _) uu Tryz.sizeOf44 rfl nb rfl ?_
      refine yt rfl rfl rfl (st_5_0_5 _ _ _ _ _ _ _ _ _ _) uu Tryz.sizeOf44 rfl nb rfl ?_
      refine yn (zs (zr (zm rfl (zp (.indexAddr rfl rfl (ixc_107_0 _ _)) (zd rfl mr Tryz.isAgg44 Tryz.sizeOf44 (rd_30_0_5 _ _ _ _ _ _ _ _ _ _ _ _ _ _ _ _ _ _ _ _ _ _ _ _ _ _ _ _ _ _) ?_))))); intro a w h
      refine gL h (zp (.indexAddr rfl rfl (ixc_107_1 _ _)) (zd rfl mr Tryz.isAgg44 Tryz.sizeOf44 (rd_30_5_5 _ _ _ _ _ _ _ _ _ _ _ _ _ _ _ _ _ _ _ _ _ _ _ _ _ _ _ _ _ _) ?_)); clear h; intro a w h
      refine gL h (zp (.indexAddr rfl rfl (ixc_107_2 _ _)) (zd rfl mr Tryz.isAgg44 Tryz.sizeOf44 (rd_30_10_5 _ _ _ _ _ _ _ _ _ _ _ _ _ _ _ _ _ _ _ _ _ _ _ _ _ _ _ _ _ _) ?_)); clear h; intro a w h
      refine gL h (zp (.indexAddr rfl rfl (ixc_107_3 _ _)) (zd rfl mr Tryz.isAgg44 Tryz.sizeOf44 (rd_30_15_5 _ _ _ _ _ _ _ _ _ _ _ _ _ _ _ _ _ _ _ _ _ _ _ _ _ _ _ _ _ _) ?_)); clear h; intro a w h
      refine gL h (zp (.indexAddr rfl rfl (ixc_107_4 _ _)) (zd rfl mr Tryz.isAgg44 Tryz.sizeOf44 (rd_30_20_5 _ _ _ _ _ _ _ _ _ _ _ _ _ _ _ _ _ _ _ _ _ _ _ _ _ _ _ _ _ _) ?_)); clear h; intro a w h
      refine gL h (zp (.indexAddr rfl rfl (ixc_107_5 _ _)) (zd rfl mr Tryz.isAgg44 Tryz.sizeOf44 (rd_30_25_5 _ _ _ _ _ _ _ _ _ _ _ _ _ _ _ _ _ _ _ _ _ _ _ _ _ _ _ _ _ _) ?_)); clear h; intro a w h
      refine gL h (zf [_, _, _, _, _, _, _] rfl Tryz.call48 (C_Shift G _ _ 4 31 hgx (qv s0.1 s0.2) (qv s1.1 s1.2) (qv s2.1 s2.2) (qv s3.1 s3.2) (qv s4.1 s4.2) (qv s5.1 s5.2) 4 (by decide) (by omega) (by omega) (by omega) (by omega) (by omega) (by omega) (by decide) (by decide)) ?_); clear h; rintro v62 Ψ62 ⟨ad62, c62, rfl, rfl⟩ a w h
      have hP62 : Pq 4 1726 (norm (shL G (qv s0.1 s0.2) (qv s1.1 s1.2) (qv s2.1 s2.2) (qv s3.1 s3.2) (qv s4.1 s4.2) (qv s5.1 s5.2))) := (Pq.shift (Kx := 4) hgx (by omega) (by omega) (by omega) (by omega) (by omega) (by omega) (by decide)).mono (Nat.le_refl _) (by decide +kernel)
      refine gL h (za rfl (zn (zs (yD mixed_YtealgpgmbflilaaGreatDoor [0, 1, 2, 4, 5, 6, 8, 9, 3, 7, 10, 11, 12, 13] (floatsOK_of ⟨.inl rfl, .inl rfl, .inl rfl, .inl rfl, .inl rfl, .inl rfl, .inl rfl, .inl rfl, .inl rfl, .inl rfl, .inl rfl, .inl rfl, .inr ⟨19, 44, _, _, _, rfl, rfl, by decide, _, zeroQ⟩, .inl rfl, trivial⟩) (yp rfl (.indexAddr rfl rfl (ixc_107_0 _ _)) (yd rfl rfl mr Tryz.isAgg44 Tryz.sizeOf44 (rd_30_0_5 _ _ _ _ _ _ _ _ _ _ _ _ _ _ _ _ _ _ _ _ _ _ _ _ _ _ _ _ _ _) ?_)))))); clear h
      refine yd rfl rfl mr Tryz.isAgg44 Tryz.sizeOf44 (rd_5_0_5 _ _ _ _ _) ?_
      refine yp rfl (.indexAddr rfl rfl (ixc_107_1 _ _)) (yd rfl rfl mr Tryz.isAgg44 Tryz.sizeOf44 (rd_30_5_5 _ _ _ _ _ _ _ _ _ _ _ _ _ _ _ _ _ _ _ _ _ _ _ _ _ _ _ _ _ _) ?_)
      refine yd rfl rfl mr Tryz.isAgg44 Tryz.sizeOf44 (rd_5_0_5 _ _ _ _ _) ?_
      refine yp rfl (.indexAddr rfl rfl (ixc_107_2 _ _)) (yd rfl rfl mr Tryz.isAgg44 Tryz.sizeOf44 (rd_30_10_5 _ _ _ _ _ _ _ _ _ _ _ _ _ _ _ _ _ _ _ _ _ _ _ _ _ _ _ _ _ _) ?_)
      refine yv [_, _] rfl rfl Tryz.call30 (C_QMul _ _ (by omega) (by omega)) ?_
      have hl66 := lenQ_mul (qv s0.1 s0.2) (qv qx.1 qx.2)
      refine yv [_, _] rfl rfl Tryz.call30 (C_QMul _ _ (by omega) (by omega)) ?_
      have hl70 := lenQ_mul (qv s1.1 s1.2) (qv qy.1 qy.2)
      refine head_buildRow hS rfl (by kernel_rfl) [(_, _), (_, _), (_, _)] rfl (bs_146_3_0_1_2 _ _ _ _ _ _ _ _ _ _ _ _ _ _ _) (cellsOf encQ [(qv s0.1 s0.2) * (qv qx.1 qx.2), (qv s1.1 s1.2) * (qv qy.1 qy.2), qv s2.1 s2.2]) rfl (by decide) ?_; intro b73
      refine yw [_] rfl rfl Tryz.call36 (C_QSum _ _ [(qv s0.1 s0.2) * (qv qx.1 qx.2), (qv s1.1 s1.2) * (qv qy.1 qy.2), qv s2.1 s2.2] (by simp) (all3 (by omega) (by omega) (by omega))) (yz rfl zeroQ fun b19 => yt rfl rfl rfl (st_5_0_5 _ _ _ _ _ _ _ _ _ _) uu Tryz.sizeOf44 rfl nb rfl ?_)
      refine yn (zs (yD mixed_YtealgpgmbflilaaGreatDoor [0, 1, 2, 4, 5, 6, 8, 9, 3, 7, 10, 11, 12, 13] (floatsOK_of ⟨.inl rfl, .inl rfl, .inl rfl, .inl rfl, .inl rfl, .inl rfl, .inl rfl, .inl rfl, .inl rfl, .inl rfl, .inl rfl, .inl rfl, .inr ⟨20, 44, _, _, _, rfl, rfl, by decide, _, zeroQ⟩, .inl rfl, trivial⟩) (yp rfl (.indexAddr rfl rfl (ixc_107_3 _ _)) (yd rfl rfl mr Tryz.isAgg44 Tryz.sizeOf44 (rd_30_15_5 _ _ _ _ _ _ _ _ _ _ _ _ _ _ _ _ _ _ _ _ _ _ _ _ _ _ _ _ _ _) ?_))))
      refine yd rfl rfl mr Tryz.isAgg44 Tryz.sizeOf44 (rd_5_0_5 _ _ _ _ _) ?_
      refine yp rfl (.indexAddr rfl rfl (ixc_107_4 _ _)) (yd rfl rfl mr Tryz.isAgg44 Tryz.sizeOf44 (rd_30_20_5 _ _ _ _ _ _ _ _ _ _ _ _ _ _ _ _ _ _ _ _ _ _ _ _ _ _ _ _ _ _) ?_)
      refine yd rfl rfl mr Tryz.isAgg44 Tryz.sizeOf44 (rd_5_0_5 _ _ _ _ _) ?_
      refine yp rfl (.indexAddr rfl rfl (ixc_107_5 _ _)) (yd rfl rfl mr Tryz.isAgg44 Tryz.sizeOf44 (rd_30_25_5 _ _ _ _ _ _ _ _ _ _ _ _ _ _ _ _ _ _ _ _ _ _ _ _ _ _ _ _ _ _) ?_)
      refine yv [_, _] rfl rfl Tryz.call30 (C_QMul _ _ (by omega) (by omega)) ?_
      have hl78 := lenQ_mul (qv s3.1 s3.2) (qv qx.1 qx.2)
      refine yv [_, _] rfl rfl Tryz.call30 (C_QMul _ _ (by omega) (by omega)) ?_
      have hl82 := lenQ_mul (qv s4.1 s4.2) (qv qy.1 qy.2)
      refine head_buildRow hS rfl (by kernel_rfl) [(_, _), (_, _), (_, _)] rfl (bs_146_3_0_1_2 _ _ _ _ _ _ _ _ _ _ _ _ _ _ _) (cellsOf encQ [(qv s3.1 s3.2) * (qv qx.1 qx.2), (qv s4.1 s4.2) * (qv qy.1 qy.2), qv s5.1 s5.2]) rfl (by decide) ?_; intro b85
      refine yw [_] rfl rfl Tryz.call36 (C_QSum _ _ [(qv s3.1 s3.2) * (qv qx.1 qx.2), (qv s4.1 s4.2) * (qv qy.1 qy.2), qv s5.1 s5.2] (by simp) (all3 (by omega) (by omega) (by omega))) (yz rfl zeroQ fun b20 => yt rfl rfl rfl (st_5_0_5 _ _ _ _ _ _ _ _ _ _) uu Tryz.sizeOf44 rfl nb rfl ?_)
      refine yn (zs (zs (yD mixed_YtealgpgmbflilaaGreatDoor [0, 1, 2, 4, 5, 6, 3, 7, 8, 9, 10, 12, 11, 13, 14, 15] (floatsOK_none (by kernel_rfl)) (yp rfl (.move rfl) (yd rfl rfl mr Tryz.isAgg44 Tryz.sizeOf44 (rd_5_0_5 _ _ _ _ _) ?_)))))
      refine yd rfl rfl mr Tryz.isAgg44 Tryz.sizeOf44 (rd_5_0_5 _ _ _ _ _) ?_
      refine yp rfl (.move rfl) (yd rfl rfl mr Tryz.isAgg44 Tryz.sizeOf44 (rd_5_0_5 _ _ _ _ _) ?_)
      refine yd rfl rfl mr Tryz.isAgg44 Tryz.sizeOf44 (rd_5_0_5 _ _ _ _ _) ?_
      refine yw [_, _, _] rfl rfl Tryz.call51 (C_At (norm (shL G (qv s0.1 s0.2) (qv s1.1 s1.2) (qv s2.1 s2.2) (qv s3.1 s3.2) (qv s4.1 s4.2) (qv s5.1 s5.2))) _ _ 4 1726 4 hP62 (by decide) (qv qx.1 qx.2) (qv qy.1 qy.2) (by omega) (by omega) (by decide) (by decide)) (yw [_, _, _] rfl rfl Tryz.call51 (C_At G _ _ 4 31 25 hgx (by decide) ([(qv s0.1 s0.2) * (qv qx.1 qx.2), (qv s1.1 s1.2) * (qv qy.1 qy.2), qv s2.1 s2.2].foldl (· + ·) 0) ([(qv s3.1 s3.2) * (qv qx.1 qx.2), (qv s4.1 s4.2) * (qv qy.1 qy.2), qv s5.1 s5.2].foldl (· + ·) 0) (sum3K (a := 8) (b := 8) (c := 4) (by omega) (by omega) (by omega)) (sum3K (a := 8) (b := 8) (c := 4) (by omega) (by omega) (by omega)) (by decide) (by decide)) (yp rfl (.binOp rfl rfl (fun _ => run_neQ _ _ (evP (norm (shL G (qv s0.1 s0.2) (qv s1.1 s1.2) (qv s2.1 s2.2) (qv s3.1 s3.2) (qv s4.1 s4.2) (qv s5.1 s5.2))) (qv qx.1 qx.2) (qv qy.1 qy.2)) (evP G ([(qv s0.1 s0.2) * (qv qx.1 qx.2), (qv s1.1 s1.2) * (qv qy.1 qy.2), qv s2.1 s2.2].foldl (· + ·) 0) ([(qv s3.1 s3.2) * (qv qx.1 qx.2), (qv s4.1 s4.2) * (qv qy.1 qy.2), qv s5.1 s5.2].foldl (· + ·) 0)) _)) ?_))
      refine head_bool (fun hc95  => (by exfalso; exact clN (shift_at G _ _ _ _ _ _ _ _) hc95)) (fun hc95  => ?_)
      refine yp rfl (.move rfl) (yq rfl rfl rfl (.move rfl) (yq rfl rfl rfl (.move rfl) ?_))
      refine head_callWG rfl rfl rfl (by kernel_rfl) (vs := [_]) rfl Tryz.call42 (C_Degree (norm (shL G (qv s0.1 s0.2) (qv s1.1 s1.2) (qv s2.1 s2.2) (qv s3.1 s3.2) (qv s4.1 s4.2) (qv s5.1 s5.2))) _ _ 4 1726 hP62 (by decide) (by decide)) (by simp) (by decide) ?_
      refine head_callWG rfl rfl rfl (by kernel_rfl) (vs := [_]) rfl Tryz.call42 (C_Degree G _ _ 4 31 hgx (by decide) (by decide)) (by simp) (by decide) ?_
      refine yq rfl rfl rfl (.gtr rfl rfl) ?_
      refine head_bool (fun hc101  => (by exfalso; have h8 := of_decide_eq_true hc101; have h9 := shift_deg G (qv s0.1 s0.2) (qv s1.1 s1.2) (qv s2.1 s2.2) (qv s3.1 s3.2) (qv s4.1 s4.2) (qv s5.1 s5.2); omega)) (fun hc101  => ?_)
      refine yp rfl (.pickF rfl rfl) (yn ?_); intro a w h
      change Code.wp _ _ _ _ _
      refine cond_false h rfl ?_
      refine gC h (zk (zs (yD mixed_YtealgpgmbflilaaGreatDoor [0, 2, 3, 4, 5, 6, 7, 8, 9, 10, 11, 12, 13, 1, 14, 15] (floatsOK_none (by kernel_rfl)) (yp rfl (.move rfl) (yp rfl (.indexAddr rfl rfl (ixc_107_0 _ _)) (yd rfl rfl mr Tryz.isAgg44 Tryz.sizeOf44 (rd_30_0_5 _ _ _ _ _ _ _ _ _ _ _ _ _ _ _ _ _ _ _ _ _ _ _ _ _ _ _ _ _ _) ?_)))))); clear h
      refine yp rfl (.indexAddr rfl rfl (ixc_107_1 _ _)) (yd rfl rfl mr Tryz.isAgg44 Tryz.sizeOf44 (rd_30_5_5 _ _ _ _ _ _ _ _ _ _ _ _ _ _ _ _ _ _ _ _ _ _ _ _ _ _ _ _ _ _) ?_)
      refine yp rfl (.indexAddr rfl rfl (ixc_107_2 _ _)) (yd rfl rfl mr Tryz.isAgg44 Tryz.sizeOf44 (rd_30_10_5 _ _ _ _ _ _ _ _ _ _ _ _ _ _ _ _ _ _ _ _ _ _ _ _ _ _ _ _ _ _) ?_)
      refine yp rfl (.indexAddr rfl rfl (ixc_107_3 _ _)) (yd rfl rfl mr Tryz.isAgg44 Tryz.sizeOf44 (rd_30_15_5 _ _ _ _ _ _ _ _ _ _ _ _ _ _ _ _ _ _ _ _ _ _ _ _ _ _ _ _ _ _) ?_)
      refine yp rfl (.indexAddr rfl rfl (ixc_107_4 _ _)) (yd rfl rfl mr Tryz.isAgg44 Tryz.sizeOf44 (rd_30_20_5 _ _ _ _ _ _ _ _ _ _ _ _ _ _ _ _ _ _ _ _ _ _ _ _ _ _ _ _ _ _) ?_)
      refine yp rfl (.indexAddr rfl rfl (ixc_107_5 _ _)) (yd rfl rfl mr Tryz.isAgg44 Tryz.sizeOf44 (rd_30_25_5 _ _ _ _ _ _ _ _ _ _ _ _ _ _ _ _ _ _ _ _ _ _ _ _ _ _ _ _ _ _) ?_)
      refine yf [_] rfl rfl Tryz.call33 (C_DxF G _ _ 4 31 hgx (by decide) (by decide)) ?_; rintro v104 Ψ104 ⟨ad104, c104, rfl, rfl⟩
      refine yf [_, _, _, _, _, _, _] rfl rfl Tryz.call48 (C_Shift (norm (dxL G)) _ _ 4 32 (hgx.dx (by decide)) (qv s0.1 s0.2) (qv s1.1 s1.2) (qv s2.1 s2.2) (qv s3.1 s3.2) (qv s4.1 s4.2) (qv s5.1 s5.2) 4 (by decide) (by omega) (by omega) (by omega) (by omega) (by omega) (by omega) (by decide) (by decide)) ?_; rintro v117 Ψ117 ⟨ad117, c117, rfl, rfl⟩
      have hP117 : Pq 4 1741 (norm (shL (norm (dxL G)) (qv s0.1 s0.2) (qv s1.1 s1.2) (qv s2.1 s2.2) (qv s3.1 s3.2) (qv s4.1 s4.2) (qv s5.1 s5.2))) := (Pq.shift (Kx := 4) (hgx.dx (by decide)) (by omega) (by omega) (by omega) (by omega) (by omega) (by omega) (by decide)).mono (Nat.le_refl _) (by decide +kernel)
      refine yp rfl (.assign rfl) (yn (zs (yD mixed_YtealgpgmbflilaaGreatDoor [0, 2, 3, 4, 5, 6, 7, 8, 9, 10, 11, 12, 13, 1, 14, 15] (floatsOK_none (by kernel_rfl)) (yp rfl (.move rfl) (yp rfl (.indexAddr rfl rfl (ixc_107_0 _ _)) (yd rfl rfl mr Tryz.isAgg44 Tryz.sizeOf44 (rd_30_0_5 _ _ _ _ _ _ _ _ _ _ _ _ _ _ _ _ _ _ _ _ _ _ _ _ _ _ _ _ _ _) ?_))))))
      refine yp rfl (.indexAddr rfl rfl (ixc_107_1 _ _)) (yd rfl rfl mr Tryz.isAgg44 Tryz.sizeOf44 (rd_30_5_5 _ _ _ _ _ _ _ _ _ _ _ _ _ _ _ _ _ _ _ _ _ _ _ _ _ _ _ _ _ _) ?_)
      refine yp rfl (.indexAddr rfl rfl (ixc_107_2 _ _)) (yd rfl rfl mr Tryz.isAgg44 Tryz.sizeOf44 (rd_30_10_5 _ _ _ _ _ _ _ _ _ _ _ _ _ _ _ _ _ _ _ _ _ _ _ _ _ _ _ _ _ _) ?_)
      refine yp rfl (.indexAddr rfl rfl (ixc_107_3 _ _)) (yd rfl rfl mr Tryz.isAgg44 Tryz.sizeOf44 (rd_30_15_5 _ _ _ _ _ _ _ _ _ _ _ _ _ _ _ _ _ _ _ _ _ _ _ _ _ _ _ _ _ _) ?_)
      refine yp rfl (.indexAddr rfl rfl (ixc_107_4 _ _)) (yd rfl rfl mr Tryz.isAgg44 Tryz.sizeOf44 (rd_30_20_5 _ _ _ _ _ _ _ _ _ _ _ _ _ _ _ _ _ _ _ _ _ _ _ _ _ _ _ _ _ _) ?_)
      refine yp rfl (.indexAddr rfl rfl (ixc_107_5 _ _)) (yd rfl rfl mr Tryz.isAgg44 Tryz.sizeOf44 (rd_30_25_5 _ _ _ _ _ _ _ _ _ _ _ _ _ _ _ _ _ _ _ _ _ _ _ _ _ _ _ _ _ _) ?_)
      refine yf [_] rfl rfl Tryz.call39 (C_DyF G _ _ 4 31 hgx (by decide) (by decide)) ?_; rintro v119 Ψ119 ⟨ad119, c119, rfl, rfl⟩
      refine yf [_, _, _, _, _, _, _] rfl rfl Tryz.call48 (C_Shift (norm (dyL G)) _ _ 4 32 (hgx.dy (by decide)) (qv s0.1 s0.2) (qv s1.1 s1.2) (qv s2.1 s2.2) (qv s3.1 s3.2) (qv s4.1 s4.2) (qv s5.1 s5.2) 4 (by decide) (by omega) (by omega) (by omega) (by omega) (by omega) (by omega) (by decide) (by decide)) ?_; rintro v132 Ψ132 ⟨ad132, c132, rfl, rfl⟩
      have hP132 : Pq 4 1741 (norm (shL (norm (dyL G)) (qv s0.1 s0.2) (qv s1.1 s1.2) (qv s2.1 s2.2) (qv s3.1 s3.2) (qv s4.1 s4.2) (qv s5.1 s5.2))) := (Pq.shift (Kx := 4) (hgx.dy (by decide)) (by omega) (by omega) (by omega) (by omega) (by omega) (by omega) (by decide)).mono (Nat.le_refl _) (by decide +kernel)
      refine yp rfl (.assign rfl) (yn (zs (zs (yD mixed_YtealgpgmbflilaaGreatDoor [0, 2, 3, 4, 6, 7, 8, 1, 5, 9, 10, 11, 12, 13, 14, 16, 17, 18, 20, 21, 22, 15, 19, 23, 24, 25, 26, 27] (floatsOK_none (by kernel_rfl)) (yp rfl (.move rfl) (yp rfl (.move rfl) (yp rfl (.indexAddr rfl rfl (ixc_107_0 _ _)) (yd rfl rfl mr Tryz.isAgg44 Tryz.sizeOf44 (rd_30_0_5 _ _ _ _ _ _ _ _ _ _ _ _ _ _ _ _ _ _ _ _ _ _ _ _ _ _ _ _ _ _) ?_))))))))
      refine yp rfl (.move rfl) (yp rfl (.indexAddr rfl rfl (ixc_107_3 _ _)) (yd rfl rfl mr Tryz.isAgg44 Tryz.sizeOf44 (rd_30_15_5 _ _ _ _ _ _ _ _ _ _ _ _ _ _ _ _ _ _ _ _ _ _ _ _ _ _ _ _ _ _) ?_))
      refine yf [_] rfl rfl Tryz.call33 (C_DxF (norm (shL G (qv s0.1 s0.2) (qv s1.1 s1.2) (qv s2.1 s2.2) (qv s3.1 s3.2) (qv s4.1 s4.2) (qv s5.1 s5.2))) _ _ 4 1726 hP62 (by decide) (by decide)) ?_; rintro v134 Ψ134 ⟨ad134, c134, rfl, rfl⟩
      refine yf [_, _] rfl rfl Tryz.call53 (C_ScaleF (norm (shL (norm (dxL G)) (qv s0.1 s0.2) (qv s1.1 s1.2) (qv s2.1 s2.2) (qv s3.1 s3.2) (qv s4.1 s4.2) (qv s5.1 s5.2))) _ _ 4 1741 hP117 (by decide) (by decide) (qv s0.1 s0.2) 4 (by omega) (by decide)) ?_; rintro v138 Ψ138 ⟨ad138, c138, rfl, rfl⟩
      refine yf [_, _] rfl rfl Tryz.call53 (C_ScaleF (norm (shL (norm (dyL G)) (qv s0.1 s0.2) (qv s1.1 s1.2) (qv s2.1 s2.2) (qv s3.1 s3.2) (qv s4.1 s4.2) (qv s5.1 s5.2))) _ _ 4 1741 hP132 (by decide) (by decide) (qv s3.1 s3.2) 4 (by omega) (by decide)) ?_; rintro v142 Ψ142 ⟨ad142, c142, rfl, rfl⟩
      refine yf [_, _] rfl rfl Tryz.call41 (C_pAddF (norm (scaleL (qv s0.1 s0.2) (norm (shL (norm (dxL G)) (qv s0.1 s0.2) (qv s1.1 s1.2) (qv s2.1 s2.2) (qv s3.1 s3.2) (qv s4.1 s4.2) (qv s5.1 s5.2))))) (norm (scaleL (qv s3.1 s3.2) (norm (shL (norm (dyL G)) (qv s0.1 s0.2) (qv s1.1 s1.2) (qv s2.1 s2.2) (qv s3.1 s3.2) (qv s4.1 s4.2) (qv s5.1 s5.2))))) _ _ _ _ 4 4 1746 1746 (hP117.scale (c := qv s0.1 s0.2) (Kc := 4) (by omega) (by decide)) (hP132.scale (c := qv s3.1 s3.2) (Kc := 4) (by omega) (by decide)) (by decide) (by decide) (by decide) (by decide)) ?_; rintro v143 Ψ143 ⟨ad143, c143, rfl, rfl⟩
      refine yw [_, _] rfl rfl Tryz.call40 (C_pSame (norm (dxL (norm (shL G (qv s0.1 s0.2) (qv s1.1 s1.2) (qv s2.1 s2.2) (qv s3.1 s3.2) (qv s4.1 s4.2) (qv s5.1 s5.2))))) (norm (norm (scaleL (qv s0.1 s0.2) (norm (shL (norm (dxL G)) (qv s0.1 s0.2) (qv s1.1 s1.2) (qv s2.1 s2.2) (qv s3.1 s3.2) (qv s4.1 s4.2) (qv s5.1 s5.2)))) ++ norm (scaleL (qv s3.1 s3.2) (norm (shL (norm (dyL G)) (qv s0.1 s0.2) (qv s1.1 s1.2) (qv s2.1 s2.2) (qv s3.1 s3.2) (qv s4.1 s4.2) (qv s5.1 s5.2)))))) _ _ _ _ 4 4 1727 3494 (hP62.dx (by decide)) ((hP117.scale (c := qv s0.1 s0.2) (Kc := 4) (by omega) (by decide)).add (hP132.scale (c := qv s3.1 s3.2) (Kc := 4) (by omega) (by decide)) (by decide) (by decide)) (by decide) (by decide) (by decide) (by decide)) (yp rfl (.unOp rfl (un_not _)) ?_)
      refine head_bool (fun hc145  => (by exfalso; exact clN (shift_dx G _ _ _ _ _ _) hc145)) (fun hc145  => ?_)
      refine yp rfl (.move rfl) (yq rfl rfl rfl (.move rfl) (yq rfl rfl rfl (.move rfl) (yq rfl rfl rfl (.indexAddr rfl rfl (ixc_107_1 _ _)) (yg rfl rfl rfl rfl mr Tryz.isAgg44 Tryz.sizeOf44 (rd_30_5_5 _ _ _ _ _ _ _ _ _ _ _ _ _ _ _ _ _ _ _ _ _ _ _ _ _ _ _ _ _ _) ?_))))
      refine yq rfl rfl rfl (.move rfl) (yq rfl rfl rfl (.indexAddr rfl rfl (ixc_107_4 _ _)) (yg rfl rfl rfl rfl mr Tryz.isAgg44 Tryz.sizeOf44 (rd_30_20_5 _ _ _ _ _ _ _ _ _ _ _ _ _ _ _ _ _ _ _ _ _ _ _ _ _ _ _ _ _ _) ?_))
      refine head_callG rfl rfl rfl (by kernel_rfl) (vs := [_]) rfl Tryz.call39 (C_DyF (norm (shL G (qv s0.1 s0.2) (qv s1.1 s1.2) (qv s2.1 s2.2) (qv s3.1 s3.2) (qv s4.1 s4.2) (qv s5.1 s5.2))) _ _ 4 1726 hP62 (by decide) (by decide)) (by simp) (by decide) ?_; rintro v148 Ψ148 ⟨ad148, c148, rfl, rfl⟩
      refine head_callG rfl rfl rfl (by kernel_rfl) (vs := [_, _]) rfl Tryz.call53 (C_ScaleF (norm (shL (norm (dxL G)) (qv s0.1 s0.2) (qv s1.1 s1.2) (qv s2.1 s2.2) (qv s3.1 s3.2) (qv s4.1 s4.2) (qv s5.1 s5.2))) _ _ 4 1741 hP117 (by decide) (by decide) (qv s1.1 s1.2) 4 (by omega) (by decide)) (by simp) (by decide) ?_; rintro v152 Ψ152 ⟨ad152, c152, rfl, rfl⟩
      refine head_callG rfl rfl rfl (by kernel_rfl) (vs := [_, _]) rfl Tryz.call53 (C_ScaleF (norm (shL (norm (dyL G)) (qv s0.1 s0.2) (qv s1.1 s1.2) (qv s2.1 s2.2) (qv s3.1 s3.2) (qv s4.1 s4.2) (qv s5.1 s5.2))) _ _ 4 1741 hP132 (by decide) (by decide) (qv s4.1 s4.2) 4 (by omega) (by decide)) (by simp) (by decide) ?_; rintro v156 Ψ156 ⟨ad156, c156, rfl, rfl⟩
      refine head_callG rfl rfl rfl (by kernel_rfl) (vs := [_, _]) rfl Tryz.call41 (C_pAddF (norm (scaleL (qv s1.1 s1.2) (norm (shL (norm (dxL G)) (qv s0.1 s0.2) (qv s1.1 s1.2) (qv s2.1 s2.2) (qv s3.1 s3.2) (qv s4.1 s4.2) (qv s5.1 s5.2))))) (norm (scaleL (qv s4.1 s4.2) (norm (shL (norm (dyL G)) (qv s0.1 s0.2) (qv s1.1 s1.2) (qv s2.1 s2.2) (qv s3.1 s3.2) (qv s4.1 s4.2) (qv s5.1 s5.2))))) _ _ _ _ 4 4 1746 1746 (hP117.scale (c := qv s1.1 s1.2) (Kc := 4) (by omega) (by decide)) (hP132.scale (c := qv s4.1 s4.2) (Kc := 4) (by omega) (by decide)) (by decide) (by decide) (by decide) (by decide)) (by simp) (by decide) ?_; rintro v157 Ψ157 ⟨ad157, c157, rfl, rfl⟩
      refine head_callWG rfl rfl rfl (by kernel_rfl) (vs := [_, _]) rfl Tryz.call40 (C_pSame (norm (dyL (norm (shL G (qv s0.1 s0.2) (qv s1.1 s1.2) (qv s2.1 s2.2) (qv s3.1 s3.2) (qv s4.1 s4.2) (qv s5.1 s5.2))))) (norm (norm (scaleL (qv s1.1 s1.2) (norm (shL (norm (dxL G)) (qv s0.1 s0.2) (qv s1.1 s1.2) (qv s2.1 s2.2) (qv s3.1 s3.2) (qv s4.1 s4.2) (qv s5.1 s5.2)))) ++ norm (scaleL (qv s4.1 s4.2) (norm (shL (norm (dyL G)) (qv s0.1 s0.2) (qv s1.1 s1.2) (qv s2.1 s2.2) (qv s3.1 s3.2) (qv s4.1 s4.2) (qv s5.1 s5.2)))))) _ _ _ _ 4 4 1727 3494 (hP62.dy (by decide)) ((hP117.scale (c := qv s1.1 s1.2) (Kc := 4) (by omega) (by decide)).add (hP132.scale (c := qv s4.1 s4.2) (Kc := 4) (by omega) (by decide)) (by decide) (by decide)) (by decide) (by decide) (by decide) (by decide)) (by simp) (by decide) ?_
      refine yq rfl rfl rfl (.unOp rfl (un_not _)) ?_
      refine head_bool (fun hc159  => (by exfalso; exact clN (shift_dy G _ _ _ _ _ _) hc159)) (fun hc159  => ?_)
      refine yp rfl (.pickF rfl rfl) (yn ?_); intro a w h
      change Code.wp _ _ _ _ _
      refine cond_false h rfl ?_
      refine gC h (zk (zs (zr (zv [_] rfl Tryz.call44 (C_QInt _ (by omega) (by omega)) ?_)))); clear h; intro a w h
      have hl161 := lenQ_int (1) (by omega) (by omega)
      refine gL h (zv [_] rfl Tryz.call44 (C_QInt _ (by omega) (by omega)) ?_); clear h; intro a w h
      have hl162 := lenQ_int (0) (by omega) (by omega)
      refine gL h (zz zeroQ fun b23 => zz zeroQ fun b24 => zt' rfl rfl (st_5_0_5 _ _ _ _ _ _ _ _ _ _) uu Tryz.sizeOf44 rfl nb rfl ?_); clear h; intro a w h
      refine gL h (zt' rfl rfl (st_5_0_5 _ _ _ _ _ _ _ _ _ _) uu Tryz.sizeOf44 rfl nb rfl ?_); clear h; intro a w h
      refine gL h (zn (zs (yD mixed_YtealgpgmbflilaaGreatDoor [0, 2, 1, 3, 4, 5, 6, 7] (floatsOK_of ⟨.inl rfl, .inl rfl, .inl rfl, .inl rfl, .inr ⟨25, 44, _, _, _, rfl, rfl, by decide, _, zeroQ⟩, .inr ⟨26, 44, _, _, _, rfl, rfl, by decide, _, zeroQ⟩, .inl rfl, .inl rfl, trivial⟩) (yd rfl rfl mr Tryz.isAgg25 Tryz.sizeOf25 (rd_2_0_2 _ _) ?_)))); clear h
      refine yd rfl rfl mr Tryz.isAgg25 Tryz.sizeOf25 (rd_2_0_2 _ _) ?_
      refine yv [_] rfl rfl Tryz.call28 (C_qOf qu.1 qu.2 (by omega) (by omega) (by omega) (by omega)) ?_
      have hl164 := lenQ_qv qu.1 qu.2 (by omega) (by omega) (by omega) (by omega)
      refine yv [_] rfl rfl Tryz.call28 (C_qOf qw.1 qw.2 (by omega) (by omega) (by omega) (by omega)) ?_
      have hl166 := lenQ_qv qw.1 qw.2 (by omega) (by omega) (by omega) (by omega)
      refine yz rfl zeroQ fun b25 => yz rfl zeroQ fun b26 => yt rfl rfl rfl (st_5_0_5 _ _ _ _ _ _ _ _ _ _) uu Tryz.sizeOf44 rfl nb rfl ?_
      refine yt rfl rfl rfl (st_5_0_5 _ _ _ _ _ _ _ _ _ _) uu Tryz.sizeOf44 rfl nb rfl ?_
      refine yn (zs (zr (zm rfl (zd rfl mr Tryz.isAgg44 Tryz.sizeOf44 (rd_5_0_5 _ _ _ _ _) ?_)))); intro a w h
      refine gL h (zd rfl mr Tryz.isAgg44 Tryz.sizeOf44 (rd_5_0_5 _ _ _ _ _) ?_); clear h; intro a w h
      refine gL h (zd rfl mr Tryz.isAgg44 Tryz.sizeOf44 (rd_5_0_5 _ _ _ _ _) ?_); clear h; intro a w h
      refine gL h (zd rfl mr Tryz.isAgg44 Tryz.sizeOf44 (rd_5_0_5 _ _ _ _ _) ?_); clear h; intro a w h
      refine gL h (zd rfl mr Tryz.isAgg44 Tryz.sizeOf44 (rd_5_0_5 _ _ _ _ _) ?_); clear h; intro a w h
      refine gL h (zd rfl mr Tryz.isAgg44 Tryz.sizeOf44 (rd_5_0_5 _ _ _ _ _) ?_); clear h; intro a w h
      refine gL h (zf [_, _, _, _, _, _, _] rfl Tryz.call48 (C_Shift (norm (shL G (qv s0.1 s0.2) (qv s1.1 s1.2) (qv s2.1 s2.2) (qv s3.1 s3.2) (qv s4.1 s4.2) (qv s5.1 s5.2))) _ _ 4 1726 hP62 (((1 : Int) : Rat)) (((0 : Int) : Rat)) (qv qu.1 qu.2) (((0 : Int) : Rat)) (((1 : Int) : Rat)) (qv qw.1 qw.2) 4 (by decide) (by omega) (by omega) (by omega) (by omega) (by omega) (by omega) (by decide) (by decide)) ?_); clear h; rintro v174 Ψ174 ⟨ad174, c174, rfl, rfl⟩ a w h
      have hP174 : Pq 4 27151 (norm (shL (norm (shL G (qv s0.1 s0.2) (qv s1.1 s1.2) (qv s2.1 s2.2) (qv s3.1 s3.2) (qv s4.1 s4.2) (qv s5.1 s5.2))) (((1 : Int) : Rat)) (((0 : Int) : Rat)) (qv qu.1 qu.2) (((0 : Int) : Rat)) (((1 : Int) : Rat)) (qv qw.1 qw.2))) := (Pq.shift (Kx := 4) hP62 (by omega) (by omega) (by omega) (by omega) (by omega) (by omega) (by decide)).mono (Nat.le_refl _) (by decide +kernel)
      refine gL h (za rfl (zn (zs (yD mixed_YtealgpgmbflilaaGreatDoor [0, 1, 2, 3, 4, 5, 6, 7, 9, 10, 11, 13, 14, 17, 18, 19, 20, 21, 22, 23, 25, 26, 27, 29, 30, 8, 12, 15, 16, 24, 28, 31, 32, 33, 34] (floatsOK_none (by kernel_rfl)) (yp rfl (.move rfl) (yp rfl (.indexAddr rfl rfl (ixc_107_0 _ _)) (yd rfl rfl mr Tryz.isAgg44 Tryz.sizeOf44 (rd_30_0_5 _ _ _ _ _ _ _ _ _ _ _ _ _ _ _ _ _ _ _ _ _ _ _ _ _ _ _ _ _ _) ?_))))))); clear h
      refine yp rfl (.indexAddr rfl rfl (ixc_107_1 _ _)) (yd rfl rfl mr Tryz.isAgg44 Tryz.sizeOf44 (rd_30_5_5 _ _ _ _ _ _ _ _ _ _ _ _ _ _ _ _ _ _ _ _ _ _ _ _ _ _ _ _ _ _) ?_)
      refine yp rfl (.indexAddr rfl rfl (ixc_107_0 _ _)) (yd rfl rfl mr Tryz.isAgg44 Tryz.sizeOf44 (rd_30_0_5 _ _ _ _ _ _ _ _ _ _ _ _ _ _ _ _ _ _ _ _ _ _ _ _ _ _ _ _ _ _) ?_)
      refine yd rfl rfl mr Tryz.isAgg44 Tryz.sizeOf44 (rd_5_0_5 _ _ _ _ _) ?_
      refine yp rfl (.indexAddr rfl rfl (ixc_107_1 _ _)) (yd rfl rfl mr Tryz.isAgg44 Tryz.sizeOf44 (rd_30_5_5 _ _ _ _ _ _ _ _ _ _ _ _ _ _ _ _ _ _ _ _ _ _ _ _ _ _ _ _ _ _) ?_)
      refine yd rfl rfl mr Tryz.isAgg44 Tryz.sizeOf44 (rd_5_0_5 _ _ _ _ _) ?_
      refine yp rfl (.indexAddr rfl rfl (ixc_107_2 _ _)) (yd rfl rfl mr Tryz.isAgg44 Tryz.sizeOf44 (rd_30_10_5 _ _ _ _ _ _ _ _ _ _ _ _ _ _ _ _ _ _ _ _ _ _ _ _ _ _ _ _ _ _) ?_)
      refine yp rfl (.indexAddr rfl rfl (ixc_107_3 _ _)) (yd rfl rfl mr Tryz.isAgg44 Tryz.sizeOf44 (rd_30_15_5 _ _ _ _ _ _ _ _ _ _ _ _ _ _ _ _ _ _ _ _ _ _ _ _ _ _ _ _ _ _) ?_)
      refine yp rfl (.indexAddr rfl rfl (ixc_107_4 _ _)) (yd rfl rfl mr Tryz.isAgg44 Tryz.sizeOf44 (rd_30_20_5 _ _ _ _ _ _ _ _ _ _ _ _ _ _ _ _ _ _ _ _ _ _ _ _ _ _ _ _ _ _) ?_)
      refine yp rfl (.indexAddr rfl rfl (ixc_107_3 _ _)) (yd rfl rfl mr Tryz.isAgg44 Tryz.sizeOf44 (rd_30_15_5 _ _ _ _ _ _ _ _ _ _ _ _ _ _ _ _ _ _ _ _ _ _ _ _ _ _ _ _ _ _) ?_)
      refine yd rfl rfl mr Tryz.isAgg44 Tryz.sizeOf44 (rd_5_0_5 _ _ _ _ _) ?_
      refine yp rfl (.indexAddr rfl rfl (ixc_107_4 _ _)) (yd rfl rfl mr Tryz.isAgg44 Tryz.sizeOf44 (rd_30_20_5 _ _ _ _ _ _ _ _ _ _ _ _ _ _ _ _ _ _ _ _ _ _ _ _ _ _ _ _ _ _) ?_)
      refine yd rfl rfl mr Tryz.isAgg44 Tryz.sizeOf44 (rd_5_0_5 _ _ _ _ _) ?_
      refine yp rfl (.indexAddr rfl rfl (ixc_107_5 _ _)) (yd rfl rfl mr Tryz.isAgg44 Tryz.sizeOf44 (rd_30_25_5 _ _ _ _ _ _ _ _ _ _ _ _ _ _ _ _ _ _ _ _ _ _ _ _ _ _ _ _ _ _) ?_)
      refine yv [_, _] rfl rfl Tryz.call30 (C_QMul _ _ (by omega) (by omega)) ?_
      have hl183 := lenQ_mul (qv s0.1 s0.2) (qv qu.1 qu.2)
      refine yv [_, _] rfl rfl Tryz.call30 (C_QMul _ _ (by omega) (by omega)) ?_
      have hl187 := lenQ_mul (qv s1.1 s1.2) (qv qw.1 qw.2)
      refine head_buildRow hS rfl (by kernel_rfl) [(_, _), (_, _), (_, _)] rfl (bs_146_3_0_1_2 _ _ _ _ _ _ _ _ _ _ _ _ _ _ _) (cellsOf encQ [(qv s0.1 s0.2) * (qv qu.1 qu.2), (qv s1.1 s1.2) * (qv qw.1 qw.2), qv s2.1 s2.2]) rfl (by decide) ?_; intro b190
      refine yw [_] rfl rfl Tryz.call36 (C_QSum _ _ [(qv s0.1 s0.2) * (qv qu.1 qu.2), (qv s1.1 s1.2) * (qv qw.1 qw.2), qv s2.1 s2.2] (by simp) (all3 (by omega) (by omega) (by omega))) (yv [_, _] rfl rfl Tryz.call30 (C_QMul _ _ (by omega) (by omega)) ?_)
      have hl199 := lenQ_mul (qv s3.1 s3.2) (qv qu.1 qu.2)
      refine yv [_, _] rfl rfl Tryz.call30 (C_QMul _ _ (by omega) (by omega)) ?_
      have hl203 := lenQ_mul (qv s4.1 s4.2) (qv qw.1 qw.2)
      refine head_buildRow hS rfl (by kernel_rfl) [(_, _), (_, _), (_, _)] rfl (bs_146_3_0_1_2 _ _ _ _ _ _ _ _ _ _ _ _ _ _ _) (cellsOf encQ [(qv s3.1 s3.2) * (qv qu.1 qu.2), (qv s4.1 s4.2) * (qv qw.1 qw.2), qv s5.1 s5.2]) rfl (by decide) ?_; intro b206
      refine yw [_] rfl rfl Tryz.call36 (C_QSum _ _ [(qv s3.1 s3.2) * (qv qu.1 qu.2), (qv s4.1 s4.2) * (qv qw.1 qw.2), qv s5.1 s5.2] (by simp) (all3 (by omega) (by omega) (by omega))) (yf [_, _, _, _, _, _, _] rfl rfl Tryz.call48 (C_Shift G _ _ 4 31 hgx (qv s0.1 s0.2) (qv s1.1 s1.2) ([(qv s0.1 s0.2) * (qv qu.1 qu.2), (qv s1.1 s1.2) * (qv qw.1 qw.2), qv s2.1 s2.2].foldl (· + ·) 0) (qv s3.1 s3.2) (qv s4.1 s4.2) ([(qv s3.1 s3.2) * (qv qu.1 qu.2), (qv s4.1 s4.2) * (qv qw.1 qw.2), qv s5.1 s5.2].foldl (· + ·) 0) 25 (by decide) (by omega) (by omega) (Nat.le_trans (sum3K (a := 8) (b := 8) (c := 4) (by omega) (by omega) (by omega)) (by decide)) (by omega) (by omega) (Nat.le_trans (sum3K (a := 8) (b := 8) (c := 4) (by omega) (by omega) (by omega)) (by decide)) (by decide) (by decide)) ?_); rintro v208 Ψ208 ⟨ad208, c208, rfl, rfl⟩
      have hP208 : Pq 4 5506 (norm (shL G (qv s0.1 s0.2) (qv s1.1 s1.2) ([(qv s0.1 s0.2) * (qv qu.1 qu.2), (qv s1.1 s1.2) * (qv qw.1 qw.2), qv s2.1 s2.2].foldl (· + ·) 0) (qv s3.1 s3.2) (qv s4.1 s4.2) ([(qv s3.1 s3.2) * (qv qu.1 qu.2), (qv s4.1 s4.2) * (qv qw.1 qw.2), qv s5.1 s5.2].foldl (· + ·) 0))) := (Pq.shift (Kx := 25) hgx (by omega) (by omega) (Nat.le_trans (sum3K (a := 8) (b := 8) (c := 4) (by omega) (by omega) (by omega)) (by decide)) (by omega) (by omega) (Nat.le_trans (sum3K (a := 8) (b := 8) (c := 4) (by omega) (by omega) (by omega)) (by decide)) (by decide)).mono (Nat.le_refl _) (by decide +kernel)
      refine yp rfl (.assign rfl) (yn (zs (zr (zm rfl (zm rfl (zw [_, _] rfl Tryz.call40 (C_pSame (norm (shL (norm (shL G (qv s0.1 s0.2) (qv s1.1 s1.2) (qv s2.1 s2.2) (qv s3.1 s3.2) (qv s4.1 s4.2) (qv s5.1 s5.2))) (((1 : Int) : Rat)) (((0 : Int) : Rat)) (qv qu.1 qu.2) (((0 : Int) : Rat)) (((1 : Int) : Rat)) (qv qw.1 qw.2))) (norm (shL G (qv s0.1 s0.2) (qv s1.1 s1.2) ([(qv s0.1 s0.2) * (qv qu.1 qu.2), (qv s1.1 s1.2) * (qv qw.1 qw.2), qv s2.1 s2.2].foldl (· + ·) 0) (qv s3.1 s3.2) (qv s4.1 s4.2) ([(qv s3.1 s3.2) * (qv qu.1 qu.2), (qv s4.1 s4.2) * (qv qw.1 qw.2), qv s5.1 s5.2].foldl (· + ·) 0))) _ _ _ _ 4 4 27151 5506 hP174 hP208 (by decide) (by decide) (by decide) (by decide)) ?_)))))); intro a w h
      refine by_bool h (fun hc211 h => ?_) (fun hc211 h => (by exfalso; exact clE (shift_comp G _ _ _ _ _ _ _ _) hc211))
      refine gL h (zm rfl (zq 212 rfl rfl (.move rfl) ?_)); clear h; intro a w h
      refine wpl_guard 212 h rfl rfl (op_load h rfl mr Tryz.isAgg44 Tryz.sizeOf44 (rd_5_0_5 _ _ _ _ _) (by decide) ?_); clear h; intro a h
      refine wpl_guard 212 h rfl rfl (op_load h rfl mr Tryz.isAgg44 Tryz.sizeOf44 (rd_5_0_5 _ _ _ _ _) (by decide) ?_); clear h; intro a h
      refine wpl_guard 212 h rfl rfl (op_load h rfl mr Tryz.isAgg44 Tryz.sizeOf44 (rd_5_0_5 _ _ _ _ _) (by decide) ?_); clear h; intro a h
      refine wpl_guard 212 h rfl rfl (op_load h rfl mr Tryz.isAgg44 Tryz.sizeOf44 (rd_5_0_5 _ _ _ _ _) (by decide) ?_); clear h; intro a h
      refine wpl_guard 212 h rfl rfl (op_load h rfl mr Tryz.isAgg44 Tryz.sizeOf44 (rd_5_0_5 _ _ _ _ _) (by decide) ?_); clear h; intro a h
      refine wpl_guard 212 h rfl rfl (op_load h rfl mr Tryz.isAgg44 Tryz.sizeOf44 (rd_5_0_5 _ _ _ _ _) (by decide) ?_); clear h; intro a h
      refine wpl_guard 212 h rfl rfl (op_call h (vs := [_, _, _, _, _, _, _]) rfl Tryz.call48 (C_Shift G _ _ 4 31 hgx (((1 : Int) : Rat)) (((0 : Int) : Rat)) (((0 : Int) : Rat)) (((0 : Int) : Rat)) (((1 : Int) : Rat)) (((0 : Int) : Rat)) 4 (by decide) (by omega) (by omega) (by omega) (by omega) (by omega) (by omega) (by decide) (by decide)) (by simp) (by decide) ?_); clear h; rintro v220 Ψ220 a w ⟨ad220, c220, rfl, rfl⟩ h
      have hP220 : Pq 4 1726 (norm (shL G (((1 : Int) : Rat)) (((0 : Int) : Rat)) (((0 : Int) : Rat)) (((0 : Int) : Rat)) (((1 : Int) : Rat)) (((0 : Int) : Rat)))) := (Pq.shift (Kx := 4) hgx (by omega) (by omega) (by omega) (by omega) (by omega) (by omega) (by decide)).mono (Nat.le_refl _) (by decide +kernel)
      refine gL h (zq 212 rfl rfl (.move rfl) ?_); clear h; intro a w h
      refine wpl_guard 212 h rfl rfl (op_callW h (vs := [_, _]) rfl Tryz.call40 (C_pSame (norm (shL G (((1 : Int) : Rat)) (((0 : Int) : Rat)) (((0 : Int) : Rat)) (((0 : Int) : Rat)) (((1 : Int) : Rat)) (((0 : Int) : Rat)))) G _ _ _ _ 4 4 1726 31 hP220 hgx (by decide) (by decide) (by decide) (by decide)) (by simp) (by decide) ?_); clear h; intro a w h
      refine by_bool h (fun hc222 h => ?_) (fun hc222 h => (by exfalso; exact clE (shift_id G) hc222))
      refine gL h (zp (.pickT rfl rfl) (zm rfl ?_)); clear h; intro a w h
      refine wpl_guard 224 h rfl rfl (op_callV h (vs := []) rfl Tryz.call37 (C_works8) (by decide) ?_); clear h; intro a w h
      refine gL h (zp (.pickT rfl rfl) (za rfl (zn (zt ?_)))); clear h; intro a w h
      refine retV h (results1 h rfl (.tmp rfl)) ?_
      rfl
end Go.Proofs.YtealgpgmbflilaaGreatDoor
