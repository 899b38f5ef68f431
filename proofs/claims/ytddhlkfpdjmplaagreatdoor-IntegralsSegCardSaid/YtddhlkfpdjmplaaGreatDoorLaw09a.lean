/- Written by a program of ours (gen.py) out of short specifications. By an AI agent. -/
import Derived.Test.YtddhlkfpdjmplaaGreatDoorLaw08f
set_option linter.unusedVariables false
set_option linter.unusedSimpArgs false
set_option maxRecDepth 4000
namespace Go.Proofs.YtddhlkfpdjmplaaGreatDoor
open Go Go.Proofs Go.Fx
attribute [local irreducible] Oper.wp Code.wp wpList Fx.Head wpOp
theorem bs_146_4_0_1_2_3 (x0_0 : Value) (x0_1 : Value) (x0_2 : Value) (x0_3 : Value) (x0_4 : Value) (x0_5 : Value) (x0_6 : Value) (x0_7 : Value) (x0_8 : Value) (x0_9 : Value) (x1_0 : Value) (x1_1 : Value) (x1_2 : Value) (x1_3 : Value) (x1_4 : Value) (x1_5 : Value) (x1_6 : Value) (x1_7 : Value) (x1_8 : Value) (x1_9 : Value) (x2_0 : Value) (x2_1 : Value) (x2_2 : Value) (x2_3 : Value) (x2_4 : Value) (x2_5 : Value) (x2_6 : Value) (x2_7 : Value) (x2_8 : Value) (x2_9 : Value) (x3_0 : Value) (x3_1 : Value) (x3_2 : Value) (x3_3 : Value) (x3_4 : Value) (x3_5 : Value) (x3_6 : Value) (x3_7 : Value) (x3_8 : Value) (x3_9 : Value) (w : World) : (Instr.buildSlice 146 4 [(0, .agg #[x0_0, x0_1, x0_2, x0_3, x0_4, x0_5, x0_6, x0_7, x0_8, x0_9]), (1, .agg #[x1_0, x1_1, x1_2, x1_3, x1_4, x1_5, x1_6, x1_7, x1_8, x1_9]), (2, .agg #[x2_0, x2_1, x2_2, x2_3, x2_4, x2_5, x2_6, x2_7, x2_8, x2_9]), (3, .agg #[x3_0, x3_1, x3_2, x3_3, x3_4, x3_5, x3_6, x3_7, x3_8, x3_9])].toArray).run Tryz.prog w = .ok (.slice (some ⟨w.heap.size, 0, none⟩) 4 4) (w.alloc (.cells #[x0_0, x0_1, x0_2, x0_3, x0_4, x0_5, x0_6, x0_7, x0_8, x0_9, x1_0, x1_1, x1_2, x1_3, x1_4, x1_5, x1_6, x1_7, x1_8, x1_9, x2_0, x2_1, x2_2, x2_3, x2_4, x2_5, x2_6, x2_7, x2_8, x2_9, x3_0, x3_1, x3_2, x3_3, x3_4, x3_5, x3_6, x3_7, x3_8, x3_9] 49 (0, 0))) := by
  simp [go_sem]
def zpt (x y : Int) : Pt := (((x : Int) : Rat), ((y : Int) : Rat))
theorem zpt_K (x y : Int) (h : -1000 ≤ x ∧ x ≤ 1000 ∧ -1000 ≤ y ∧ y ≤ 1000) : PtK 2 (zpt x y) := ⟨lenQ_int x (by omega) (by omega), lenQ_int y (by omega) (by omega)⟩
theorem digS_pos (n : Nat) : 0 < (digS n).size := by unfold digS; split <;> simp [ByteArray.size]
theorem textZ_pos (z : Int) : 0 < (textZ z).size := by
  unfold textZ
  have := digS_pos z.natAbs
  split
  · rw [ByteArray.size_append]; omega
  · exact this
theorem textQ_pos (x : Rat) : 0 < (textQ x).size := by
  unfold textQ
  have := textZ_pos x.num
  split
  · exact this
  · rw [ByteArray.size_append, ByteArray.size_append]; omega
theorem textQ_ne (x : Rat) : textQ x ≠ ⟨#[]⟩ := fun e => by have := textQ_pos x; rw [e] at this; exact absurd this (by decide)
def pX : List Tm := [⟨1, 0, ((1 : Int) : Rat)⟩]
def pY : List Tm := [⟨0, 1, ((1 : Int) : Rat)⟩]
def p1 : List Tm := [⟨0, 0, ((1 : Int) : Rat)⟩]
theorem mono_Pq (i j : Nat) (h : i + j ≤ 1) : Pq 1 4 [(⟨i, j, ((1 : Int) : Rat)⟩ : Tm)] :=
  ⟨fun t ht => by rw [List.mem_singleton] at ht; subst ht; exact h, by simp, (Hb.of_KL (k := 2) (fun t ht => by rw [List.mem_singleton] at ht; subst ht; exact lenQ_one)).mono (by simp)⟩
theorem pX_Pq : Pq 1 4 pX := mono_Pq 1 0 (by decide)
theorem pY_Pq : Pq 1 4 pY := mono_Pq 0 1 (by decide)
theorem p1_Pq : Pq 1 4 (norm p1) := (mono_Pq 0 0 (by decide)).nrm (by decide)
theorem pXY_Pq : Pq 2 8 (norm (mulL pX pY)) := pX_Pq.mul pY_Pq (by decide)
theorem pXX_Pq : Pq 2 8 (norm (mulL pX pX)) := pX_Pq.mul pX_Pq (by decide)
theorem nrm_tri (p : List Tm) (u v z : Pt) : triQ (norm p) u v z = triQ p u v z := triQ_eqv (Eqv.nrm p) u v z
theorem nrm_seg (p : List Tm) (u v : Pt) : segQ (norm p) u v = segQ p u v := segQ_eqv (Eqv.nrm p) u v
def Sm (n d : Int) : Prop := (-9223372036854775808 ≤ n ∧ n ≤ 9223372036854775807) ∧ (-9223372036854775808 ≤ d ∧ d ≤ 9223372036854775807) ∧ d ≠ 0 ∧ ((n : Rat) / (d : Rat)).num.natAbs < 100 ∧ ((n : Rat) / (d : Rat)).den < 100
instance (n d : Int) : Decidable (Sm n d) := by unfold Sm; infer_instance
theorem w1 : triQ (norm p1) (zpt 0 0) (zpt 1 0) (zpt 0 1) = ((1 : Int) : Rat) / ((2 : Int) : Rat) := by rw [nrm_tri]; decide +kernel
theorem w2 : triQ (norm (mulL pX pY)) (zpt 0 0) (zpt 1 0) (zpt 0 1) = ((1 : Int) : Rat) / ((24 : Int) : Rat) := by rw [nrm_tri]; decide +kernel
theorem w3 : triQ (norm (mulL pX pX)) (zpt 0 0) (zpt 1 0) (zpt 0 1) = ((1 : Int) : Rat) / ((12 : Int) : Rat) := by rw [nrm_tri]; decide +kernel
theorem w4 : triQ pX (zpt 0 0) (zpt 0 1) (zpt 1 0) = (((-1) : Int) : Rat) / ((6 : Int) : Rat) := by decide +kernel
theorem w5 : polyQ pX [zpt 0 0, zpt 2 0, zpt 2 1, zpt 0 1] = ((2 : Int) : Rat) / ((1 : Int) : Rat) := by decide +kernel
theorem w6 : segQ (norm (mulL pX pX)) (zpt 0 0) (zpt 2 1) = ((4 : Int) : Rat) / ((3 : Int) : Rat) := by rw [nrm_seg]; decide +kernel
theorem w7 : flowQ pX [] (zpt 1 0) (zpt 1 1) = ((1 : Int) : Rat) / ((1 : Int) : Rat) := by decide +kernel
theorem w5_K : ∀ x ∈ [zpt 0 0, zpt 2 0, zpt 2 1, zpt 0 1], PtK 2 x := fun x hx => by
  simp only [List.mem_cons, List.not_mem_nil, or_false] at hx
  rcases hx with rfl | rfl | rfl | rfl <;> exact zpt_K _ _ (by decide)
theorem C_pX : Ctr Tryz.prog 46 [] [] (fun v Ψ => ∃ ad' c', v = .slice ad' pX.length c' ∧ Ψ = [Row ad' (cellsOf encT pX)]) := by
  refine fn_intro Tryz.func46 rfl Tryz.ntmps46 nb ?_
  intro S w0 a hS h
  refine gC h (zs (zr (za rfl (zn (zs (zr (zv [_] rfl Tryz.call45 (C_QInt _ (by omega) (by omega)) ?_))))))); clear h; intro a w h
  have hl1 := lenQ_int (1) (by omega) (by omega)
  refine gL h (zp (.build [(_, _), (_, _)] rfl (bd_117_0_2 _ _ _ _ _ _)) (zB [(_, _)] rfl (bs_47_1_0 _ _ _ _ _ _ _) fun b3 => ?_)); clear h; intro a w h
  replace h := h.shareAll hS (cellsOf encT pX) rfl
  refine gL h (za rfl (zn (zt ?_))); clear h; intro a w h
  exact ret_of h (results1 h rfl (.tmp rfl)) ⟨_, _, rfl, rfl⟩ (by simp)
theorem C_pY : Ctr Tryz.prog 47 [] [] (fun v Ψ => ∃ ad' c', v = .slice ad' pY.length c' ∧ Ψ = [Row ad' (cellsOf encT pY)]) := by
  refine fn_intro Tryz.func47 rfl Tryz.ntmps47 nb ?_
  intro S w0 a hS h
  refine gC h (zs (zr (za rfl (zn (zs (zr (zv [_] rfl Tryz.call45 (C_QInt _ (by omega) (by omega)) ?_))))))); clear h; intro a w h
  have hl1 := lenQ_int (1) (by omega) (by omega)
  refine gL h (zp (.build [(_, _), (_, _)] rfl (bd_117_1_2 _ _ _ _ _ _)) (zB [(_, _)] rfl (bs_47_1_0 _ _ _ _ _ _ _) fun b3 => ?_)); clear h; intro a w h
  replace h := h.shareAll hS (cellsOf encT pY) rfl
  refine gL h (za rfl (zn (zt ?_))); clear h; intro a w h
  exact ret_of h (results1 h rfl (.tmp rfl)) ⟨_, _, rfl, rfl⟩ (by simp)
theorem C_lat (x y : Int) (h1 : -9223372036854775808 ≤ x) (h2 : x ≤ 9223372036854775807) (h3 : -9223372036854775808 ≤ y) (h4 : y ≤ 9223372036854775807) : CtrV Tryz.prog 43 [.int .i64 x, .int .i64 y] (encPt (zpt x y)) := by
  refine fn_intro Tryz.func43 rfl Tryz.ntmps43 nb ?_
  intro S w0 a hS h
  refine gC h (zs (zr (zz zeroPt fun b4 => zn (zs (zr (zm rfl (zv [_] rfl Tryz.call45 (C_QInt _ (by omega) (by omega)) ?_))))))); clear h; intro a w h
  have hl6 := lenQ_int (x) (by omega) (by omega)
  refine gL h (zm rfl (zv [_] rfl Tryz.call45 (C_QInt _ (by omega) (by omega)) ?_)); clear h; intro a w h
  have hl8 := lenQ_int (y) (by omega) (by omega)
  refine gL h (zp (.build [(_, _), (_, _)] rfl (bd_49_0_1 _ _ _ _ _ _ _ _ _ _)) (zt' rfl rfl (st_10_0_10 _ _ _ _ _ _ _ _ _ _ _ _ _ _ _ _ _ _ _ _) uu Tryz.sizeOf49 rfl nb rfl ?_)); clear h; intro a w h
  refine wpList_nil (wp_ret ?_)
  refine retV h (results1 h rfl (.cell rfl mr Tryz.isAgg49 Tryz.sizeOf49 (rd_10_0_10 _ _ _ _ _ _ _ _ _ _))) ?_
  rfl
theorem C_is (x : Rat) (n d : Int) (hs : Sm n d) (hx : x = (n : Rat) / (d : Rat)) : CtrV Tryz.prog 49 [encQ x, .int .i64 n, .int .i64 d] (.bool true) := by
  obtain ⟨⟨h1, h2⟩, ⟨h3, h4⟩, h5, h6, h7⟩ := hs
  rw [← hx] at h6 h7
  refine fn_intro Tryz.func49 rfl Tryz.ntmps49 nb ?_
  intro S w0 a hS h
  refine gC h (zs (zr (zx rfl fun b3 => za rfl (zn (zs (zr (zm rfl (zm rfl (zv [_, _] rfl Tryz.call60 (C_QOf n d h1 h2 h3 h4 h5) (zm rfl (zp (.extract rfl (fun _ => rfl)) (zp (.extract rfl (fun _ => rfl)) (zz zeroQ fun b7 => zt' rfl rfl (st_5_0_5 _ _ _ _ _ _ _ _ _ _) uu Tryz.sizeOf44 rfl nb rfl ?_))))))))))))); clear h; intro a w h
  refine gL h (za rfl (zn (zs (zr (zd rfl mr Tryz.isAgg44 Tryz.sizeOf44 (rd_5_0_5 _ _ _ _ _) ?_))))); clear h; intro a w h
  refine gL h (zd rfl mr Tryz.isAgg44 Tryz.sizeOf44 (rd_5_0_5 _ _ _ _ _) ?_); clear h; intro a w h
  refine gL h (zp (.binOp rfl rfl (fun _ => run_eqQ _ _ x (((n : Int) : Rat) / ((d : Int) : Rat)) _)) ?_); clear h; intro a w h
  refine by_bool h (fun hc17 h => ?_) (fun hc17 h => (by exfalso; rw [hx] at hc17; simp at hc17))
  refine gL h (zm rfl ?_); clear h; intro a w h
  refine wpl_guard 18 h rfl rfl (op_load h rfl mr Tryz.isAgg44 Tryz.sizeOf44 (rd_5_0_5 _ _ _ _ _) (by decide) ?_); clear h; intro a h
  refine wpl_guard 18 h rfl rfl (op_callV h (vs := [_]) rfl Tryz.call55 (C_QText x h6 h7) (by decide) ?_); clear h; intro a w h
  refine gL h (zq 18 rfl rfl (.binOp rfl rfl (fun _ => run_sneq _ _ _ _ _)) ?_); clear h; intro a w h
  refine by_bool h (fun hc21 h => ?_) (fun hc21 h => (by exfalso; exact absurd hc21 (by simp [textQ_ne])))
  refine gL h (zp (.pickT rfl rfl) (za rfl (zn (zt ?_)))); clear h; intro a w h
  refine retV h (results1 h rfl (.tmp rfl)) ?_
  rfl
theorem C_one : Ctr Tryz.prog 44 [encQ ((1 : Int) : Rat)] [] (fun v Ψ => ∃ ad' c', v = .slice ad' (norm p1).length c' ∧ Ψ = [Row ad' (cellsOf encT (norm p1))]) := C_ConstF ((1 : Int) : Rat) 2 lenQ_one (by decide)
theorem ix3i (a b c : Int) (m : Nat) (h : m < 3) (w : World) : (Instr.index 157 (.agg #[.int .i64 a, .int .i64 b, .int .i64 c]) (.int .i64 (m : Int))).run Tryz.prog w = .ok (.int .i64 ([a, b, c].getD m 0)) w := by
  match m, h with
  | 0, _ => unfold Instr.index; simp [go_sem]
  | 1, _ => unfold Instr.index; simp [go_sem]
  | 2, _ => unfold Instr.index; simp [go_sem]
theorem C_Moment_out (i j k : Int) (hout : ¬ ∀ m, m < 3 → 0 ≤ [i, j, k].getD m 0 ∧ [i, j, k].getD m 0 ≤ 48) : CtrV Tryz.prog 50 [.int .i64 i, .int .i64 j, .int .i64 k] (encQ 0) := by
  refine fn_intro Tryz.func50 rfl Tryz.ntmps50 nb ?_
  intro S w0 a hS h
  refine gC h (zs (zr (zz zeroQ fun b6 => zn (zs (zs (zr (zm rfl (zm rfl (zm rfl (zp (.build [(_, _), (_, _), (_, _)] rfl (bd_157_0_1_2 _ _ _)) (zm rfl (zn (zb ?_))))))))))))); clear h; intro a w h
  refine wp_loop_inv (fun (m : Nat) a w => m ≤ 3 ∧ (∀ q, q < m → 0 ≤ [i, j, k].getD q 0 ∧ [i, j, k].getD q 0 ≤ 48) ∧ St 37 S w0 [(0, .int .i64 i), (1, .int .i64 j), (2, .int .i64 k), (6, .pointer (some ⟨b6, 0, none⟩)), (12, .agg #[.int .i64 i, .int .i64 j, .int .i64 k]), (13, .int .i64 ((m : Nat) : Int))] [(b6, .cells (Value.cells (encQ (0))) 44 (0, 0))] [] a w) (fun m => 3 - m) 0 (⟨Nat.zero_le _, fun q hq => absurd hq (Nat.not_lt_zero _), by exact (h).sub (subL ⟨rfl, rfl, rfl, rfl, rfl, rfl, trivial⟩)⟩) ?_; clear h
  rintro m a w ⟨hi_m, hinv_m, h⟩
  refine gC h (zs (zr (zp (.lss rfl rfl) (zn (zs ?_))))); clear h; intro a w h
  refine cond_split h rfl (fun hc14 => ?_) (fun hc14 => ?_)
  · skip
    have hlt_m : m < 3 := by have := of_decide_eq_true hc14; omega
    refine gC h (zk (zs (zb (zs (zr (zp (.index rfl rfl (fun w => ix3i i j k m (by omega) w)) (za rfl (zn (zs (zr (zm rfl (zp (.lss rfl rfl) ?_)))))))))))); clear h; intro a w h
    refine by_bool h (fun hc17 h => ?_) (fun hc17 h => ?_)
    · skip
      refine gL h (zm rfl (zo 18 rfl rfl rfl (zo 18 rfl rfl rfl (zp (.pickT rfl rfl) (zn ?_))))); clear h; intro a w h
      change Code.wp _ _ _ _ _
      refine cond_true h rfl ?_
      refine gC h (zs (zr (zp (.build [] rfl (bd_44_z)) (zt' rfl rfl (st_5_0_5 _ _ _ _ _ _ _ _ _ _) uu Tryz.sizeOf44 rfl nb rfl ?_)))); clear h; intro a w h
      refine wpList_nil (wp_ret ?_)
      refine retV h (results1 h rfl (.cell rfl mr Tryz.isAgg44 Tryz.sizeOf44 (rd_5_0_5 _ _ _ _ _))) ?_
      rfl
    · skip
      refine gL h (zm rfl (zq 18 rfl rfl (.move rfl) (zq 18 rfl rfl (.gtr rfl rfl) ?_))); clear h; intro a w h
      refine by_bool h (fun hc20 h => ?_) (fun hc20 h => ?_)
      · skip
        refine gL h (zp (.pickF rfl rfl) (zn ?_)); clear h; intro a w h
        change Code.wp _ _ _ _ _
        refine cond_true h rfl ?_
        refine gC h (zs (zr (zp (.build [] rfl (bd_44_z)) (zt' rfl rfl (st_5_0_5 _ _ _ _ _ _ _ _ _ _) uu Tryz.sizeOf44 rfl nb rfl ?_)))); clear h; intro a w h
        refine wpList_nil (wp_ret ?_)
        refine retV h (results1 h rfl (.cell rfl mr Tryz.isAgg44 Tryz.sizeOf44 (rd_5_0_5 _ _ _ _ _))) ?_
        rfl
      · skip
        refine gL h (zp (.pickF rfl rfl) (zn ?_)); clear h; intro a w h
        change Code.wp _ _ _ _ _
        refine cond_false h rfl ?_
        refine gC h (zk (zr (zp (Pure1.cast (v' := (.int .i64 ((m + 1 : Nat) : Int))) (.add rfl rfl) (by show Value.int _ _ = Value.int _ _; congr 1)) (zm rfl (zn ?_))))); clear h; intro a w h
        exact ⟨m + 1, ⟨by omega, fun q hq => by
          rcases Nat.lt_or_ge q m with h1 | h1
          · exact hinv_m q h1
          · rw [show q = m by omega]; have h2 := of_decide_eq_false hc17; have h3 := of_decide_eq_false hc20; omega, h.sub sA⟩, by omega⟩
  · skip
    have heq_m : 3 = m := by have := of_decide_eq_false hc14; omega
    subst heq_m
    exact absurd hinv_m hout
theorem C_works9 : CtrV Tryz.prog 7 [] (.bool true) := by
  refine fn_intro Tryz.func7 rfl Tryz.ntmps7 nb ?_
  intro S w0 a hS h
  replace h := h.derive (R := Row none (cellsOf encT [])) (fun X _ hne => absurd rfl hne)
  refine gC h (zs (zr (za rfl (zn (zs (zr (zv [_, _] rfl Tryz.call43 (C_lat 0 0 (by decide) (by decide) (by decide) (by decide)) (zv [_, _] rfl Tryz.call43 (C_lat 1 0 (by decide) (by decide) (by decide) (by decide)) (zv [_, _] rfl Tryz.call43 (C_lat 0 1 (by decide) (by decide) (by decide) (by decide)) (zz zeroPt fun b1 => zz zeroPt fun b2 => zz zeroPt fun b3 => zt' rfl rfl (st_10_0_10 _ _ _ _ _ _ _ _ _ _ _ _ _ _ _ _ _ _ _ _) uu Tryz.sizeOf49 rfl nb rfl ?_)))))))))); clear h; intro a w h
  refine gL h (zt' rfl rfl (st_10_0_10 _ _ _ _ _ _ _ _ _ _ _ _ _ _ _ _ _ _ _ _) uu Tryz.sizeOf49 rfl nb rfl ?_); clear h; intro a w h
  refine gL h (zt' rfl rfl (st_10_0_10 _ _ _ _ _ _ _ _ _ _ _ _ _ _ _ _ _ _ _ _) uu Tryz.sizeOf49 rfl nb rfl ?_); clear h; intro a w h
  refine gL h (zn (zs (zr (zv [_] rfl Tryz.call45 (C_QInt _ (by omega) (by omega)) ?_)))); clear h; intro a w h
  have hl14 := lenQ_int (1) (by omega) (by omega)
  refine gL h (zf [_] rfl Tryz.call44 (C_one) ?_); clear h; rintro v15 Ψ15 ⟨ad15, c15, rfl, rfl⟩ a w h
  refine gL h (zf [] rfl Tryz.call46 (C_pX) ?_); clear h; rintro v16 Ψ16 ⟨ad16, c16, rfl, rfl⟩ a w h
  refine gL h (zf [] rfl Tryz.call47 (C_pY) ?_); clear h; rintro v17 Ψ17 ⟨ad17, c17, rfl, rfl⟩ a w h
  refine gL h (za rfl (za rfl (za rfl (zn (zs (zr (zm rfl (zm rfl (zf [_, _] rfl Tryz.call48 (C_pMulF pX pY _ _ _ _ 1 1 4 4 pX_Pq pY_Pq (by decide) (by decide) (by decide)) ?_))))))))); clear h; rintro v21 Ψ21 ⟨ad21, c21, rfl, rfl⟩ a w h
  refine gL h (zm rfl (zp (.extract rfl (fun _ => rfl)) (zp (.extract rfl (fun _ => rfl)) (za rfl (za rfl (zn (zs (zr (zm rfl (zm rfl (zf [_, _] rfl Tryz.call48 (C_pMulF pX pX _ _ _ _ 1 1 4 4 pX_Pq pX_Pq (by decide) (by decide) (by decide)) ?_))))))))))); clear h; rintro v27 Ψ27 ⟨ad27, c27, rfl, rfl⟩ a w h
  refine gL h (zm rfl (zp (.extract rfl (fun _ => rfl)) (zp (.extract rfl (fun _ => rfl)) (za rfl (za rfl (zn (zs (zs (zr (zv [_, _, _] rfl Tryz.call50 (C_Moment 0 0 0 (by decide) (by decide) (by decide)) (zv [_, _, _] rfl Tryz.call49 (C_is _ 1 1 (by decide +kernel) (by decide +kernel)) ?_))))))))))); clear h; intro a w h
  refine by_bool h (fun hc31 h => ?_) (fun hc31 h => (by exfalso; cases hc31))
  refine gL h (zp (.unOp rfl (un_not _)) (zm rfl ?_)); clear h; intro a w h
  refine wpl_guard 33 h rfl rfl (op_callV h (vs := [_, _, _]) rfl Tryz.call50 (C_Moment 1 0 0 (by decide) (by decide) (by decide)) (by decide) ?_); clear h; intro a w h
  refine wpl_guard 33 h rfl rfl (op_callV h (vs := [_, _, _]) rfl Tryz.call49 (C_is _ 1 3 (by decide +kernel) (by decide +kernel)) (by decide) ?_); clear h; intro a w h
  refine by_bool h (fun hc35 h => ?_) (fun hc35 h => (by exfalso; cases hc35))
  refine gL h (zq 33 rfl rfl (.unOp rfl (un_not _)) (zp (.pickF rfl rfl) (zm rfl ?_))); clear h; intro a w h
  refine wpl_guard 38 h rfl rfl (op_callV h (vs := [_, _, _]) rfl Tryz.call50 (C_Moment 1 1 0 (by decide) (by decide) (by decide)) (by decide) ?_); clear h; intro a w h
  refine wpl_guard 38 h rfl rfl (op_callV h (vs := [_, _, _]) rfl Tryz.call49 (C_is _ 1 12 (by decide +kernel) (by decide +kernel)) (by decide) ?_); clear h; intro a w h
  refine by_bool h (fun hc40 h => ?_) (fun hc40 h => (by exfalso; cases hc40))
  refine gL h (zq 38 rfl rfl (.unOp rfl (un_not _)) (zp (.pickF rfl rfl) (zm rfl ?_))); clear h; intro a w h
  refine wpl_guard 43 h rfl rfl (op_callV h (vs := [_, _, _]) rfl Tryz.call50 (C_Moment 2 0 0 (by decide) (by decide) (by decide)) (by decide) ?_); clear h; intro a w h
  refine wpl_guard 43 h rfl rfl (op_callV h (vs := [_, _, _]) rfl Tryz.call49 (C_is _ 1 6 (by decide +kernel) (by decide +kernel)) (by decide) ?_); clear h; intro a w h
  refine by_bool h (fun hc45 h => ?_) (fun hc45 h => (by exfalso; cases hc45))
  refine gL h (zq 43 rfl rfl (.unOp rfl (un_not _)) (zp (.pickF rfl rfl) (zm rfl ?_))); clear h; intro a w h
  refine wpl_guard 48 h rfl rfl (op_callV h (vs := [_, _, _]) rfl Tryz.call50 (C_Moment_out (-1) 0 0 (fun h => absurd (h 0 (by decide)).1 (by decide))) (by decide) ?_); clear h; intro a w h
  refine wpl_guard 48 h rfl rfl (op_callV h (vs := [_, _, _]) rfl Tryz.call49 (C_is _ 0 1 (by decide +kernel) (by decide +kernel)) (by decide) ?_); clear h; intro a w h
  refine by_bool h (fun hc50 h => ?_) (fun hc50 h => (by exfalso; cases hc50))
  refine gL h (zq 48 rfl rfl (.unOp rfl (un_not _)) (zp (.pickF rfl rfl) (zn ?_))); clear h; intro a w h
  change Code.wp _ _ _ _ _
  refine cond_false h rfl ?_
  refine gC h (zk (zs (zs (zr (zm rfl (zd rfl mr Tryz.isAgg49 Tryz.sizeOf49 (rd_10_0_10 _ _ _ _ _ _ _ _ _ _) ?_)))))); clear h; intro a w h
  refine gL h (zd rfl mr Tryz.isAgg49 Tryz.sizeOf49 (rd_10_0_10 _ _ _ _ _ _ _ _ _ _) ?_); clear h; intro a w h
  refine gL h (zd rfl mr Tryz.isAgg49 Tryz.sizeOf49 (rd_10_0_10 _ _ _ _ _ _ _ _ _ _) ?_); clear h; intro a w h
  refine gL h (zw [_, _, _, _] rfl Tryz.call51 (C_Tri (norm p1) _ _ 1 4 2 p1_Pq (by decide) (zpt 0 0) (zpt 1 0) (zpt 0 1) (zpt_K 0 0 (by decide)) (zpt_K 1 0 (by decide)) (zpt_K 0 1 (by decide)) (by decide) (by decide)) (zv [_, _, _] rfl Tryz.call49 (C_is _ 1 2 (by decide +kernel) w1) ?_)); clear h; intro a w h
  refine by_bool h (fun hc58 h => ?_) (fun hc58 h => (by exfalso; cases hc58))
  refine gL h (zp (.unOp rfl (un_not _)) (zm rfl (zq 60 rfl rfl (.move rfl) ?_))); clear h; intro a w h
  refine wpl_guard 60 h rfl rfl (op_load h rfl mr Tryz.isAgg49 Tryz.sizeOf49 (rd_10_0_10 _ _ _ _ _ _ _ _ _ _) (by decide) ?_); clear h; intro a h
  refine wpl_guard 60 h rfl rfl (op_load h rfl mr Tryz.isAgg49 Tryz.sizeOf49 (rd_10_0_10 _ _ _ _ _ _ _ _ _ _) (by decide) ?_); clear h; intro a h
  refine wpl_guard 60 h rfl rfl (op_load h rfl mr Tryz.isAgg49 Tryz.sizeOf49 (rd_10_0_10 _ _ _ _ _ _ _ _ _ _) (by decide) ?_); clear h; intro a h
  refine wpl_guard 60 h rfl rfl (op_callW h (vs := [_, _, _, _]) rfl Tryz.call51 (C_Tri (norm (mulL pX pY)) _ _ 2 8 2 pXY_Pq (by decide) (zpt 0 0) (zpt 1 0) (zpt 0 1) (zpt_K 0 0 (by decide)) (zpt_K 1 0 (by decide)) (zpt_K 0 1 (by decide)) (by decide) (by decide)) (by simp) (by decide) ?_); clear h; intro a w h
  refine wpl_guard 60 h rfl rfl (op_callV h (vs := [_, _, _]) rfl Tryz.call49 (C_is _ 1 24 (by decide +kernel) w2) (by decide) ?_); clear h; intro a w h
  refine by_bool h (fun hc66 h => ?_) (fun hc66 h => (by exfalso; cases hc66))
  refine gL h (zq 60 rfl rfl (.unOp rfl (un_not _)) (zp (.pickF rfl rfl) (zm rfl (zq 69 rfl rfl (.move rfl) ?_)))); clear h; intro a w h
  refine wpl_guard 69 h rfl rfl (op_load h rfl mr Tryz.isAgg49 Tryz.sizeOf49 (rd_10_0_10 _ _ _ _ _ _ _ _ _ _) (by decide) ?_); clear h; intro a h
  refine wpl_guard 69 h rfl rfl (op_load h rfl mr Tryz.isAgg49 Tryz.sizeOf49 (rd_10_0_10 _ _ _ _ _ _ _ _ _ _) (by decide) ?_); clear h; intro a h
  refine wpl_guard 69 h rfl rfl (op_load h rfl mr Tryz.isAgg49 Tryz.sizeOf49 (rd_10_0_10 _ _ _ _ _ _ _ _ _ _) (by decide) ?_); clear h; intro a h
  refine wpl_guard 69 h rfl rfl (op_callW h (vs := [_, _, _, _]) rfl Tryz.call51 (C_Tri (norm (mulL pX pX)) _ _ 2 8 2 pXX_Pq (by decide) (zpt 0 0) (zpt 1 0) (zpt 0 1) (zpt_K 0 0 (by decide)) (zpt_K 1 0 (by decide)) (zpt_K 0 1 (by decide)) (by decide) (by decide)) (by simp) (by decide) ?_); clear h; intro a w h
  refine wpl_guard 69 h rfl rfl (op_callV h (vs := [_, _, _]) rfl Tryz.call49 (C_is _ 1 12 (by decide +kernel) w3) (by decide) ?_); clear h; intro a w h
  refine by_bool h (fun hc75 h => ?_) (fun hc75 h => (by exfalso; cases hc75))
  refine gL h (zq 69 rfl rfl (.unOp rfl (un_not _)) (zp (.pickF rfl rfl) (zm rfl (zq 78 rfl rfl (.move rfl) ?_)))); clear h; intro a w h
  refine wpl_guard 78 h rfl rfl (op_load h rfl mr Tryz.isAgg49 Tryz.sizeOf49 (rd_10_0_10 _ _ _ _ _ _ _ _ _ _) (by decide) ?_); clear h; intro a h
  refine wpl_guard 78 h rfl rfl (op_load h rfl mr Tryz.isAgg49 Tryz.sizeOf49 (rd_10_0_10 _ _ _ _ _ _ _ _ _ _) (by decide) ?_); clear h; intro a h
  refine wpl_guard 78 h rfl rfl (op_load h rfl mr Tryz.isAgg49 Tryz.sizeOf49 (rd_10_0_10 _ _ _ _ _ _ _ _ _ _) (by decide) ?_); clear h; intro a h
  refine wpl_guard 78 h rfl rfl (op_callW h (vs := [_, _, _, _]) rfl Tryz.call51 (C_Tri pX _ _ 1 4 2 pX_Pq (by decide) (zpt 0 0) (zpt 0 1) (zpt 1 0) (zpt_K 0 0 (by decide)) (zpt_K 0 1 (by decide)) (zpt_K 1 0 (by decide)) (by decide) (by decide)) (by simp) (by decide) ?_); clear h; intro a w h
  refine wpl_guard 78 h rfl rfl (op_callV h (vs := [_, _, _]) rfl Tryz.call49 (C_is _ (-1) 6 (by decide +kernel) w4) (by decide) ?_); clear h; intro a w h
  refine by_bool h (fun hc84 h => ?_) (fun hc84 h => (by exfalso; cases hc84))
  refine gL h (zq 78 rfl rfl (.unOp rfl (un_not _)) (zp (.pickF rfl rfl) (zn ?_))); clear h; intro a w h
  change Code.wp _ _ _ _ _
  refine cond_false h rfl ?_
  refine gC h (zk (zs (yD mixed_YtddhlkfpdjmplaaGreatDoor [0, 1, 4, 2, 3, 5, 6, 7, 8, 9, 10, 11, 12, 13, 14, 15, 16, 17, 18, 19, 20, 21, 22] (floatsOK_none (by kernel_rfl)) (yp rfl (.move rfl) (yd rfl rfl mr Tryz.isAgg49 Tryz.sizeOf49 (rd_10_0_10 _ _ _ _ _ _ _ _ _ _) ?_))))); clear h
  refine yd rfl rfl mr Tryz.isAgg49 Tryz.sizeOf49 (rd_10_0_10 _ _ _ _ _ _ _ _ _ _) ?_
  refine yv [_, _] rfl rfl Tryz.call43 (C_lat 2 0 (by decide) (by decide) (by decide) (by decide)) (yv [_, _] rfl rfl Tryz.call43 (C_lat 2 1 (by decide) (by decide) (by decide) (by decide)) ?_)
  refine head_buildRow hS rfl (by kernel_rfl) [(_, _), (_, _), (_, _), (_, _)] rfl (bs_146_4_0_1_2_3 _ _ _ _ _ _ _ _ _ _ _ _ _ _ _ _ _ _ _ _ _ _ _ _ _ _ _ _ _ _ _ _ _ _ _ _ _ _ _ _) (cellsOf encPt [zpt 0 0, zpt 2 0, zpt 2 1, zpt 0 1]) rfl (by decide) ?_; intro b92
  refine yw [_, _] rfl rfl Tryz.call52 (C_Polygon pX _ _ _ _ 1 4 2 [zpt 0 0, zpt 2 0, zpt 2 1, zpt 0 1] pX_Pq (by decide) w5_K (by decide) (by decide) (by decide) (by decide +kernel)) (yv [_, _, _] rfl rfl Tryz.call49 (C_is _ 2 1 (by decide +kernel) w5) ?_)
  refine head_bool (fun hc94  => ?_) (fun hc94  => (by exfalso; cases hc94))
  refine yp rfl (.move rfl) (yq rfl rfl rfl (.move rfl) (yg rfl rfl rfl rfl mr Tryz.isAgg49 Tryz.sizeOf49 (rd_10_0_10 _ _ _ _ _ _ _ _ _ _) ?_))
  refine head_callVG rfl rfl rfl (by kernel_rfl) (vs := [_, _]) rfl Tryz.call43 (C_lat 2 1 (by decide) (by decide) (by decide) (by decide)) (by decide) ?_
  refine head_callWG rfl rfl rfl (by kernel_rfl) (vs := [_, _, _]) rfl Tryz.call11 (C_Seg (norm (mulL pX pX)) _ _ 2 8 2 pXX_Pq (by decide) (zpt 0 0) (zpt 2 1) (zpt_K 0 0 (by decide)) (zpt_K 2 1 (by decide)) (by decide) (by decide) (by decide)) (by simp) (by decide) ?_
  refine head_callVG rfl rfl rfl (by kernel_rfl) (vs := [_, _, _]) rfl Tryz.call49 (C_is _ 4 3 (by decide +kernel) w6) (by decide) ?_
  refine head_bool (fun hc100  => ?_) (fun hc100  => (by exfalso; cases hc100))
  refine yp rfl (.pickT rfl rfl) (yp rfl (.move rfl) (yq rfl rfl rfl (.move rfl) (yg rfl rfl rfl rfl mr Tryz.isAgg49 Tryz.sizeOf49 (rd_10_0_10 _ _ _ _ _ _ _ _ _ _) ?_)))
  refine head_callVG rfl rfl rfl (by kernel_rfl) (vs := [_, _]) rfl Tryz.call43 (C_lat 1 1 (by decide) (by decide) (by decide) (by decide)) (by decide) ?_
  refine head_callWG rfl rfl rfl (by kernel_rfl) (vs := [_, _, _, _]) rfl Tryz.call16 (C_Flow pX [] _ _ _ _ 1 1 4 1 2 pX_Pq (Pq.nil 1) (by decide) (by decide) (zpt 1 0) (zpt 1 1) (zpt_K 1 0 (by decide)) (zpt_K 1 1 (by decide)) (by decide) (by decide) (by decide) (by decide)) (by simp) (by decide) ?_
  refine head_callVG rfl rfl rfl (by kernel_rfl) (vs := [_, _, _]) rfl Tryz.call49 (C_is _ 1 1 (by decide +kernel) w7) (by decide) ?_
  refine head_bool (fun hc107  => ?_) (fun hc107  => (by exfalso; cases hc107))
  refine yp rfl (.pickT rfl rfl) (yp rfl (.assign rfl) (yn (zt ?_))); intro a w h
  refine retV h (results1 h rfl (.tmp rfl)) ?_
  rfl
end Go.Proofs.YtddhlkfpdjmplaaGreatDoor
