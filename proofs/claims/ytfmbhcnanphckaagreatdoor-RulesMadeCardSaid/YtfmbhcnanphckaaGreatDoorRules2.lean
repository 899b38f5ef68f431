/- Written by a program of ours (gen.py) out of short specifications. By an AI agent. -/
import Derived.Test.YtfmbhcnanphckaaGreatDoorRules1
import Derived.Test.YtfmbhcnanphckaaGreatDoorFxZ
set_option linter.unusedVariables false
set_option linter.unusedSimpArgs false
set_option maxRecDepth 4000
namespace Go.Proofs.YtfmbhcnanphckaaGreatDoor
open Go Go.Proofs Go.Fx
attribute [local irreducible] Oper.wp Code.wp wpList Fx.Head wpOp
theorem bs_23_1_0 (x0_0 : Value) (x0_1 : Value) (x0_2 : Value) (x0_3 : Value) (x0_4 : Value) (w : World) : (Instr.buildSlice 23 1 [(0, .agg #[x0_0, x0_1, x0_2, x0_3, x0_4])].toArray).run Tryz.prog w = .ok (.slice (some ⟨w.heap.size, 0, none⟩) 1 1) (w.alloc (.cells #[x0_0, x0_1, x0_2, x0_3, x0_4] 42 (0, 0))) := by
  simp [go_sem]
/-- A polynomial times a + b t: the first i terms worked in. -/
def timesN (l : List Rat) (a b : Rat) : Nat → List Rat
  | 0 => List.replicate (l.length + 1) 0
  | i + 1 => ((timesN l a b i).set i ((timesN l a b i).getD i 0 + l.getD i 0 * a)).set (i + 1)
      (((timesN l a b i).set i ((timesN l a b i).getD i 0 + l.getD i 0 * a)).getD (i + 1) 0 + l.getD i 0 * b)
def timesQ (l : List Rat) (a b : Rat) : List Rat := timesN l a b l.length
theorem timesN_len (l : List Rat) (a b : Rat) : ∀ i, (timesN l a b i).length = l.length + 1
  | 0 => by simp [timesN]
  | i + 1 => by simp [timesN, timesN_len l a b i]
theorem lenQ_getD {l : List Rat} {k : Nat} (hk : 2 ≤ k) (h : ∀ x ∈ l, lenQ x ≤ k) (j : Nat) : lenQ (l.getD j 0) ≤ k := by
  by_cases hj : j < l.length
  · exact h _ (getD_mem l hj)
  · rw [List.getD_eq_getElem?_getD, List.getElem?_eq_none (by omega)]; have := lenQ_zero; exact Nat.le_trans this hk
theorem getD_set_cases (l : List Rat) (i j : Nat) (x : Rat) : (l.set i x).getD j 0 = x ∨ (l.set i x).getD j 0 = l.getD j 0 := by
  simp only [List.getD_eq_getElem?_getD, List.getElem?_set]
  by_cases h : i = j
  · subst h
    by_cases h2 : i < l.length
    · left; simp [h2]
    · right; simp [h2, List.getElem?_eq_none (Nat.le_of_not_lt h2)]
  · simp [h]
theorem lenQ_timesN (l : List Rat) (a b : Rat) (hl : ∀ x ∈ l, lenQ x ≤ 1000) (ha : lenQ a ≤ 1000) (hb : lenQ b ≤ 1000) : ∀ i j, lenQ ((timesN l a b i).getD j 0) ≤ 1000 + 4004 * i
  | 0, j => lenQ_getD (by omega) (fun x hx => by rw [timesN] at hx; rw [(List.mem_replicate.1 hx).2]; have := lenQ_zero; omega) j
  | i + 1, j => by
    have hx := lenQ_getD (k := 1000) (by omega) hl i
    have h1 := lenQ_timesN l a b hl ha hb i
    have h2 := lenQ_mul (l.getD i 0) a
    have h3 := lenQ_mul (l.getD i 0) b
    have h4 := lenQ_add ((timesN l a b i).getD i 0) (l.getD i 0 * a)
    have h5 := h1 i
    have h6 : ∀ j, lenQ (((timesN l a b i).set i ((timesN l a b i).getD i 0 + l.getD i 0 * a)).getD j 0) ≤ 3001 + 4004 * i := fun j => by
      rcases getD_set_cases (timesN l a b i) i j ((timesN l a b i).getD i 0 + l.getD i 0 * a) with h | h <;> rw [h]
      · omega
      · have := h1 j; omega
    have h7 := lenQ_add (((timesN l a b i).set i ((timesN l a b i).getD i 0 + l.getD i 0 * a)).getD (i + 1) 0) (l.getD i 0 * b)
    have h8 := h6 (i + 1)
    unfold timesN
    rcases getD_set_cases ((timesN l a b i).set i ((timesN l a b i).getD i 0 + l.getD i 0 * a)) (i + 1) j (((timesN l a b i).set i ((timesN l a b i).getD i 0 + l.getD i 0 * a)).getD (i + 1) 0 + l.getD i 0 * b) with h | h <;> rw [h]
    · omega
    · have := h6 j; omega

theorem C_times2 (ad : Option Addr) (c : Nat) (l : List Rat) (x y : Rat) (hn : l.length ≤ 1000) (hl : ∀ x ∈ l, lenQ x ≤ 1000) (hx : lenQ x ≤ 1000) (hy : lenQ y ≤ 1000) :
    CtrO Tryz.prog 47 [.slice ad l.length c, encQ x, encQ y] [Row ad (cellsOf encQ l)] (fun v σ => ∃ b, v = .slice (some ⟨b, 0, none⟩) (l.length + 1) (l.length + 1) ∧ σ = [(b, .cells (cellsOf encQ (timesQ l x y)).toArray 42 (0, 0))]) := by
  refine fn_introO Tryz.func47 rfl Tryz.ntmps47 nb ?_
  intro S w0 a hS h
  refine gC h (zs (zr (zx rfl fun b4 => zx rfl fun b5 => za rfl (zn (zs (zr (zm rfl (zp (.builtin [_] rfl (len_slice_23 _ _ _)) (zp (Pure1.cast (v' := (.int .i64 ((l.length + 1 : Nat) : Int))) (.add rfl rfl) (by show Value.int _ _ = Value.int _ _; congr 1)) ?_))))))))); clear h; intro a w h
  refine wpl_plain (op_makeSlice h rfl rfl Tryz.runUnderlying23 Tryz.typeInfo42 Tryz.sizeOf42 zeroQ rfl (by decide) (by omega) (by show 56 * (l.length + 1) ≤ 281474976710656; omega) (by omega) (by decide) ?_); clear h; intro b13 a w h; replace h := h.same rfl (by rw [← cellsOf_replicate (enc := encQ)]) rfl
  refine gL h (za rfl (zn (zs (zs (zr (zm rfl (zp (.builtin [_] rfl (len_slice_23 _ _ _)) (zm rfl (zn (zb ?_)))))))))); clear h; intro a w h
  refine wp_loop_inv (fun (i : Nat) a w => i ≤ l.length ∧ St 47 S w0 [(4, .pointer (some ⟨b4, 0, none⟩)), (5, .pointer (some ⟨b5, 0, none⟩)), (7, .slice (some ⟨b13, 0, none⟩) (l.length + 1) (l.length + 1)), (14, .slice ad l.length c), (15, .int .i64 ((l.length : Nat) : Int)), (16, .int .i64 ((i : Nat) : Int))] [(b13, .cells (cellsOf encQ (timesN l x y i)).toArray 42 (0, 0)), (b5, .cells (Value.cells (encQ (y))) 42 (0, 0)), (b4, .cells (Value.cells (encQ (x))) 42 (0, 0))] [Row ad (cellsOf encQ l)] a w) (fun i => l.length - i) 0 (⟨Nat.zero_le _, by exact (h).sub (subL ⟨rfl, rfl, rfl, rfl, rfl, rfl, trivial⟩)⟩) ?_; clear h
  rintro i a w ⟨hi_i, h⟩
  refine gC h (zs (zr (zp (.lss rfl rfl) (zn (zs ?_))))); clear h; intro a w h
  refine cond_split h rfl (fun hc17 => ?_) (fun hc17 => ?_)
  · skip
    have hlt_i : i < l.length := by have := of_decide_eq_true hc17; omega
    obtain ⟨B_ad, O_ad, rfl⟩ := h.row_addr (ad := ad) (M := cellsOf encQ l) mm (by intro e; have := congrArg List.length e; rw [cellsOf_length (k := 5) (fun _ => rfl)] at this; simp only [List.length_nil, Nat.mul_eq_zero] at this; omega)
    have hli := lenQ_getD (k := 1000) (by omega) hl i
    have hti := lenQ_timesN l x y hl hx hy i i
    have htl := timesN_len l x y i
    have hm1 := lenQ_mul (l.getD i 0) x
    have hm2 := lenQ_mul (l.getD i 0) y
    have hs1 := lenQ_add ((timesN l x y i).getD i 0) (l.getD i 0 * x)
    have hti2 : lenQ (((timesN l x y i).set i ((timesN l x y i).getD i 0 + l.getD i 0 * x)).getD (i + 1) 0) ≤ 6004 + 4004 * i := by
      have h1 := lenQ_timesN l x y hl hx hy i (i + 1)
      rcases getD_set_cases (timesN l x y i) i (i + 1) ((timesN l x y i).getD i 0 + l.getD i 0 * x) with h | h <;> rw [h] <;> omega
    refine gC h (zk (zs (zb (zs (zr (zm rfl (zp (.indexAddr rfl rfl (ix_23 _ _ _ _ _ (by omega))) (zD rfl mm (cells_lt (k := 5) (by decide) (fun _ => rfl) l i (by omega)) Tryz.isAgg42 Tryz.sizeOf42 (read_cells (k := 5) (fun _ => rfl) ((fun _ => rfl)) l 0 i (by omega)) (.inl rfl) ?_)))))))); clear h; intro a w h
    refine gL h (zz zeroQ fun b9 => za rfl (zt' rfl rfl (st_5_0_5 _ _ _ _ _ _ _ _ _ _) uu Tryz.sizeOf42 rfl nb rfl ?_)); clear h; intro a w h
    refine gL h (zn (zs (yD mixed_YtfmbhcnanphckaaGreatDoor [0, 1, 2, 3, 4, 5, 6, 7, 8, 9, 10, 11] (floatsOK_none (by kernel_rfl)) (yp rfl (.move rfl) (yp rfl (.move rfl) (yp rfl (.move rfl) (yp rfl (.move rfl) (yp rfl (.indexAddr rfl rfl (ix_23 _ _ _ _ _ (by omega))) (yd rfl rfl mm Tryz.isAgg42 Tryz.sizeOf42 (read_cells0 (k := 5) (fun _ => rfl) ((fun _ => rfl)) (timesN l x y i) 0 i (by omega)) ?_))))))))); clear h
    refine yd rfl rfl mr Tryz.isAgg42 Tryz.sizeOf42 (rd_5_0_5 _ _ _ _ _) ?_
    refine yd rfl rfl mr Tryz.isAgg42 Tryz.sizeOf42 (rd_5_0_5 _ _ _ _ _) ?_
    refine yv [_, _] rfl rfl Tryz.call44 (C_QMul _ _ (by omega) (by omega)) ?_
    have hl29 := lenQ_mul (l.getD i 0) (x)
    refine yv [_, _] rfl rfl Tryz.call30 (C_QAdd _ _ (by omega) (by omega)) ?_
    have hl30 := lenQ_add ((timesN l x y i).getD i 0) ((l.getD i 0) * x)
    refine yp rfl (.indexAddr rfl rfl (ix_23 _ _ _ _ _ (by omega))) ?_
    refine head_store (b := b13) (cs := (cellsOf encQ (timesN l x y i)).toArray) (cs' := (cellsOf encQ ((timesN l x y i).set i (((timesN l x y i).getD i 0) + ((l.getD i 0) * x)))).toArray) (v := encQ (((timesN l x y i).getD i 0) + ((l.getD i 0) * x))) rfl (by kernel_rfl) rfl rfl (set_cells0 (k := 5) (fun _ => rfl) (timesN l x y i) i (by omega) (((timesN l x y i).getD i 0) + ((l.getD i 0) * x))) uu Tryz.sizeOf42 rfl (cells_le (k := 5) (fun _ => rfl) (timesN l x y i) i (by omega)) rfl ?_
    refine yn (yD mixed_YtfmbhcnanphckaaGreatDoor [0, 1, 2, 3, 4, 5, 6, 7, 8, 9, 10, 11, 12, 13] (floatsOK_none (by kernel_rfl)) (yp rfl (.move rfl) (yp rfl (.move rfl) (yp rfl (Pure1.cast (v' := (.int .i64 ((i + 1 : Nat) : Int))) (.add rfl rfl) (by show Value.int _ _ = Value.int _ _; congr 1)) (yp rfl (.move rfl) (yp rfl (.move rfl) (yp rfl (Pure1.cast (v' := (.int .i64 ((i + 1 : Nat) : Int))) (.add rfl rfl) (by show Value.int _ _ = Value.int _ _; congr 1)) (yp rfl (.indexAddr rfl rfl (ix_23 _ _ _ _ _ (by omega))) (yd rfl rfl mm Tryz.isAgg42 Tryz.sizeOf42 (read_cells0 (k := 5) (fun _ => rfl) ((fun _ => rfl)) ((timesN l x y i).set i (((timesN l x y i).getD i 0) + ((l.getD i 0) * x))) 0 (i + 1) (by rw [List.length_set]; omega)) ?_)))))))))
    refine yd rfl rfl mr Tryz.isAgg42 Tryz.sizeOf42 (rd_5_0_5 _ _ _ _ _) ?_
    refine yd rfl rfl mr Tryz.isAgg42 Tryz.sizeOf42 (rd_5_0_5 _ _ _ _ _) ?_
    refine yv [_, _] rfl rfl Tryz.call44 (C_QMul _ _ (by omega) (by omega)) ?_
    have hl42 := lenQ_mul (l.getD i 0) (y)
    refine yv [_, _] rfl rfl Tryz.call30 (C_QAdd _ _ (by omega) (by omega)) ?_
    have hl43 := lenQ_add (((timesN l x y i).set i (((timesN l x y i).getD i 0) + ((l.getD i 0) * x))).getD (i + 1) 0) ((l.getD i 0) * y)
    refine yp rfl (.indexAddr rfl rfl (ix_23 _ _ _ _ _ (by omega))) ?_
    refine head_store (b := b13) (cs := (cellsOf encQ ((timesN l x y i).set i (((timesN l x y i).getD i 0) + ((l.getD i 0) * x)))).toArray) (cs' := (cellsOf encQ (((timesN l x y i).set i (((timesN l x y i).getD i 0) + ((l.getD i 0) * x))).set (i + 1) ((((timesN l x y i).set i (((timesN l x y i).getD i 0) + ((l.getD i 0) * x))).getD (i + 1) 0) + ((l.getD i 0) * y)))).toArray) (v := encQ ((((timesN l x y i).set i (((timesN l x y i).getD i 0) + ((l.getD i 0) * x))).getD (i + 1) 0) + ((l.getD i 0) * y))) rfl (by kernel_rfl) rfl rfl (set_cells0 (k := 5) (fun _ => rfl) ((timesN l x y i).set i (((timesN l x y i).getD i 0) + ((l.getD i 0) * x))) (i + 1) (by rw [List.length_set]; omega) ((((timesN l x y i).set i (((timesN l x y i).getD i 0) + ((l.getD i 0) * x))).getD (i + 1) 0) + ((l.getD i 0) * y))) uu Tryz.sizeOf42 rfl (cells_le (k := 5) (fun _ => rfl) ((timesN l x y i).set i (((timesN l x y i).getD i 0) + ((l.getD i 0) * x))) (i + 1) (by rw [List.length_set]; omega)) rfl ?_
    refine yn (zr (zp (Pure1.cast (v' := (.int .i64 ((i + 1 : Nat) : Int))) (.add rfl rfl) (by show Value.int _ _ = Value.int _ _; congr 1)) (zm rfl (zn ?_)))); intro a w h
    exact ⟨i + 1, ⟨by omega, ((h.drop sl).factsSub (by simp)).sub sA⟩, by omega⟩
  · skip
    have heq_i : l.length = i := by have := of_decide_eq_false hc17; omega
    subst heq_i
    refine gC h (ze (zs (zr (zm rfl (za rfl (zn (zt ?_))))))); clear h; intro a w h
    refine retO h (results1 h rfl (.tmp rfl)) ⟨_, rfl, rfl⟩ (List.Sublist.cons_cons _ (List.nil_sublist _))

def risingQ (n : Nat) : Nat → List Rat
  | 0 => [((1 : Int) : Rat)]
  | m + 1 => timesQ (risingQ n m) (((-((m : Nat) : Int) : Int) : Rat) / (((m + 1 : Nat) : Int) : Rat)) ((((n : Nat) : Int) : Rat) / (((m + 1 : Nat) : Int) : Rat))
theorem risingQ_len (n : Nat) : ∀ i, (risingQ n i).length = i + 1
  | 0 => rfl
  | i + 1 => by rw [risingQ, timesQ, timesN_len, risingQ_len n i]

theorem C_times2X (ad : Option Addr) (c n : Nat) (l : List Rat) (x y : Rat) (hln : n = l.length) (hn : l.length ≤ 1000) (hl : ∀ x ∈ l, lenQ x ≤ 1000) (hx : lenQ x ≤ 1000) (hy : lenQ y ≤ 1000) :
    CtrO Tryz.prog 47 [.slice ad n c, encQ x, encQ y] [Row ad (cellsOf encQ l)] (fun v σ => ∃ b, v = .slice (some ⟨b, 0, none⟩) (n + 1) (n + 1) ∧ σ = [(b, .cells (cellsOf encQ (timesQ l x y)).toArray 42 (0, 0))]) := by
  subst hln; exact C_times2 ad c l x y hn hl hx hy

theorem C_rising (n i : Nat) (hn : n ≤ 1000) (hi : i ≤ 100) (hs : ∀ m, m ≤ i → ∀ x ∈ risingQ n m, lenQ x ≤ 1000) :
    Ctr Tryz.prog 43 [.int .i64 ((n : Nat) : Int), .int .i64 ((i : Nat) : Int)] [] (fun v Ψ => ∃ ad c, v = .slice ad (i + 1) c ∧ Ψ = [Row ad (cellsOf encQ (risingQ n i))]) := by
  refine fn_intro Tryz.func43 rfl Tryz.ntmps43 nb ?_
  intro S w0 a hS h
  refine gC h (zs (zr (za rfl (zn (zs (zr (zv [_] rfl Tryz.call20 (C_QInt _ (by omega) (by omega)) ?_))))))); clear h; intro a w h
  have hl7 := lenQ_int (1) (by omega) (by omega)
  refine gL h (zB [(_, _)] rfl (bs_23_1_0 _ _ _ _ _) fun b8 => ?_); clear h; intro a w h
  replace h := h.shareAll hS (cellsOf encQ ([((1 : Int) : Rat)])) rfl
  refine gL h (za rfl (zn (zs (zs (zr (zm rfl (zm rfl (zn (zb ?_))))))))); clear h; intro a w h
  refine wp_loop_inv (fun (m : Nat) a w => m ≤ i ∧ ∃ (ad : Option Addr) (c : Nat), St 26 S w0 [(0, .int .i64 ((n : Nat) : Int)), (5, .slice ad (m + 1) c), (9, .int .i64 ((i : Nat) : Int)), (10, .int .i64 ((m : Nat) : Int))] [] [Row ad (cellsOf encQ (risingQ n m))] a w) (fun m => i - m) 0 (⟨Nat.zero_le _, _, _, by rw [show risingQ n 0 = [((1 : Int) : Rat)] from rfl]; exact (h.factsSub (by simp)).sub (subL ⟨rfl, rfl, rfl, rfl, trivial⟩)⟩) ?_; clear h
  rintro m a w ⟨hi_m, ad, c, h⟩
  refine gC h (zs (zr (zp (.lss rfl rfl) (zn (zs ?_))))); clear h; intro a w h
  refine cond_split h rfl (fun hc11 => ?_) (fun hc11 => ?_)
  · skip
    have hlt_m : m < i := by have := of_decide_eq_true hc11; omega
    have hsm := hs m (by omega)
    have hrl := risingQ_len n m
    have hq1 := lenQ_of (-((m : Nat) : Int)) ((m + 1 : Nat) : Int) (by omega) (by omega) (by omega) (by omega)
    have hq2 := lenQ_of ((n : Nat) : Int) ((m + 1 : Nat) : Int) (by omega) (by omega) (by omega) (by omega)
    refine gC h (zk (zs (zb (zs (zr (zm rfl (za rfl (zn (zr (zm rfl (zm rfl (zp (.unOp rfl (fun w => run_negi _ (by omega) (by omega) w)) (zm rfl (zp (Pure1.cast (v' := (.int .i64 ((m + 1 : Nat) : Int))) (.add rfl rfl) (by show Value.int _ _ = Value.int _ _; congr 1)) (zv [_, _] rfl Tryz.call46 (C_rratio _ _ (by omega) (by omega) (by omega) (by omega) (by omega)) ?_))))))))))))))); clear h; intro a w h
    have hl18 := lenQ_of (-((m : Nat) : Int)) (((m + 1 : Nat) : Int)) (by omega) (by omega) (by omega) (by omega)
    refine gL h (zm rfl (zm rfl (zp (Pure1.cast (v' := (.int .i64 ((m + 1 : Nat) : Int))) (.add rfl rfl) (by show Value.int _ _ = Value.int _ _; congr 1)) (zv [_, _] rfl Tryz.call46 (C_rratio _ _ (by omega) (by omega) (by omega) (by omega) (by omega)) ?_)))); clear h; intro a w h
    have hl22 := lenQ_of (((n : Nat) : Int)) (((m + 1 : Nat) : Int)) (by omega) (by omega) (by omega) (by omega)
    refine wpl_plain (op_callO h (vs := [_, _, _]) rfl Tryz.call47 (C_times2X ad c _ (risingQ n m) _ _ hrl.symm (by omega) hsm (by omega) (by omega)) (by simp) (by decide) ?_); clear h; rintro v23 σ23 a w ⟨b23, rfl, rfl⟩ h
    replace h := h.shareAll hS (cellsOf encQ (risingQ n (m + 1))) rfl
    refine gL h (za rfl (zn (zr (zp (Pure1.cast (v' := (.int .i64 ((m + 1 : Nat) : Int))) (.add rfl rfl) (by show Value.int _ _ = Value.int _ _; congr 1)) (zm rfl (zn ?_)))))); clear h; intro a w h
    exact ⟨m + 1, ⟨by omega, _, _, by exact (h.factsSub (by simp)).sub (subL ⟨rfl, rfl, rfl, rfl, trivial⟩)⟩, by omega⟩
  · skip
    have heq_m : i = m := by have := of_decide_eq_false hc11; omega
    subst heq_m
    refine gC h (ze (zs (zr (zm rfl (za rfl (zn (zt ?_))))))); clear h; intro a w h
    refine ret_of (Ψ := [Row _ (cellsOf encQ (risingQ n i))]) h (results1 h rfl (.tmp rfl)) ⟨_, _, rfl, rfl⟩ (by simp)
end Go.Proofs.YtfmbhcnanphckaaGreatDoor
