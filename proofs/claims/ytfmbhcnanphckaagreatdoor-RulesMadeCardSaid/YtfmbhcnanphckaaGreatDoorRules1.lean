/- Written by a program of ours (gen.py) out of short specifications. By an AI agent. -/
import Derived.Test.YtfmbhcnanphckaaGreatDoorText3
import Derived.Test.YtfmbhcnanphckaaGreatDoorFxZ
set_option linter.unusedVariables false
set_option linter.unusedSimpArgs false
set_option maxRecDepth 4000
namespace Go.Proofs.YtfmbhcnanphckaaGreatDoor
open Go Go.Proofs Go.Fx
attribute [local irreducible] Oper.wp Code.wp wpList Fx.Head wpOp
theorem len_slice_45 (a : Option Addr) (n c : Nat) (w : World) (ty : TypeId) (cs : Array Bool) : (Go.builtin .len #[45] ty cs #[.slice a n c]).run Tryz.prog w = .ok (.value (.int .i64 n)) w := by
  simp [go_sem]
theorem ix_45 (b off n c j : Nat) (h : j < n) (w : World) : (Instr.indexAt 45 (.slice (some ⟨b, off, none⟩) n c) (.int .i64 (j : Int))).run Tryz.prog w = .ok (.pointer (some ⟨b, off + j, none⟩)) w := by
  simpa using indexAt_slice Tryz.runUnderlying45 Tryz.sizeOf3 b off n c j h w
theorem bd_56_0_1_2 (x0 : Int) (x1 : Int) (x2 : Int) (w : World) : (Instr.build 56 [(0, .int .i64 x0), (1, .int .i64 x1), (2, .int .i64 x2)].toArray).run Tryz.prog w = .ok (.agg #[.int .i64 x0, .int .i64 x1, .int .i64 x2]) w := by simp [go_sem]
theorem bs_45_3_0_1_2 (x0 : Int) (x1 : Int) (x2 : Int) (w : World) : (Instr.buildSlice 45 3 [(0, .int .i64 x0), (1, .int .i64 x1), (2, .int .i64 x2)].toArray).run Tryz.prog w = .ok (.slice (some ⟨w.heap.size, 0, none⟩) 3 3) (w.alloc (.cells #[.int .i64 x0, .int .i64 x1, .int .i64 x2] 3 (0, 0))) := by
  simp [go_sem]
/-- A number times the numbers from 1 to p. -/
def upQ (q : Rat) : Nat → Rat
  | 0 => q
  | p + 1 => upQ q p * (((p + 1 : Nat) : Int) : Rat)
/-- A number divided by the numbers from 1 to n. -/
def downQ (q : Rat) : Nat → Rat
  | 0 => q
  | n + 1 => downQ q n / (((n + 1 : Nat) : Int) : Rat)
def ratioQ (n : Nat) (l : List Nat) : Rat := downQ (l.foldl upQ 1) n
def momentQ (i j k : Nat) : Rat := ((2 : Int) : Rat) * ratioQ (i + j + k + 2) [i, j, k]
theorem lenQ_up (q : Rat) : ∀ p, p ≤ 1000000 → lenQ (upQ q p) ≤ lenQ q + 2 * p
  | 0, _ => Nat.le_refl _
  | p + 1, h => by
    have h1 := lenQ_up q p (by omega)
    have h2 := lenQ_int ((p + 1 : Nat) : Int) (by omega) (by omega)
    have h3 := lenQ_mul (upQ q p) (((p + 1 : Nat) : Int) : Rat)
    show lenQ (upQ q p * _) ≤ _
    omega
theorem lenQ_down (q : Rat) : ∀ p, p ≤ 1000000 → lenQ (downQ q p) ≤ lenQ q + 2 * p
  | 0, _ => Nat.le_refl _
  | p + 1, h => by
    have h1 := lenQ_down q p (by omega)
    have h2 := lenQ_int ((p + 1 : Nat) : Int) (by omega) (by omega)
    have h3 := lenQ_div (downQ q p) (((p + 1 : Nat) : Int) : Rat)
    show lenQ (downQ q p / _) ≤ _
    omega
theorem lenQ_one : lenQ 1 ≤ 2 := lenQ_int 1 (by omega) (by omega)
theorem lenQ_ups : ∀ (l : List Nat) (q : Rat), (∀ x ∈ l, x ≤ 48) → lenQ (l.foldl upQ q) ≤ lenQ q + 96 * l.length
  | [], q, _ => by simp
  | x :: l, q, h => by
    have h1 := lenQ_ups l (upQ q x) (fun y hy => h y (List.mem_cons_of_mem _ hy))
    have h0 := h x List.mem_cons_self
    have h2 := lenQ_up q x (by omega)
    simp only [List.foldl_cons, List.length_cons]
    omega
theorem one_int : ((1 : Int) : Rat) = 1 := rfl
theorem int_ne {n : Nat} : ((((n + 1 : Nat) : Int) : Rat)) ≠ 0 := fun e => by have := Rat.intCast_eq_zero_iff.1 e; omega

theorem C_iratio (n : Nat) (l : List Nat) (ad : Option Addr) (c : Nat) (hn : n ≤ 200) (hl : l.length ≤ 10) (hx : ∀ x ∈ l, x ≤ 48) :
    CtrW Tryz.prog 86 [.int .i64 ((n : Nat) : Int), .slice ad l.length c] [Row ad (List.map encn l)] (encQ (ratioQ n l)) := by
  refine fn_intro Tryz.func86 rfl Tryz.ntmps86 nb ?_
  intro S w0 a hS h
  refine gC h (zs (zr (zz zeroQ fun b4 => zn (zs (zr (zv [_] rfl Tryz.call20 (C_QInt _ (by omega) (by omega)) ?_)))))); clear h; intro a w h
  have hl10 := lenQ_int (1) (by omega) (by omega)
  refine gL h (zz zeroQ fun b5 => zt' rfl rfl (st_5_0_5 _ _ _ _ _ _ _ _ _ _) uu Tryz.sizeOf42 rfl nb rfl ?_); clear h; intro a w h
  refine gL h (zn (zs (zs (zr (zm rfl (zp (.builtin [_] rfl (len_slice_45 _ _ _)) (zm rfl (zn (zb ?_))))))))); clear h; intro a w h
  refine wp_loop_inv (fun (k : Nat) a w => k ≤ l.length ∧ St 42 S w0 [(0, .int .i64 ((n : Nat) : Int)), (4, .pointer (some ⟨b4, 0, none⟩)), (5, .pointer (some ⟨b5, 0, none⟩)), (11, .slice ad l.length c), (12, .int .i64 ((l.length : Nat) : Int)), (13, .int .i64 ((k : Nat) : Int))] [(b5, .cells (Value.cells (encQ ((l.take k).foldl upQ 1))) 42 (0, 0)), (b4, .cells (Value.cells (encQ (0))) 42 (0, 0))] [Row ad (List.map encn l)] a w) (fun k => l.length - k) 0 (⟨Nat.zero_le _, by exact (h).sub (subL ⟨rfl, rfl, rfl, rfl, rfl, rfl, trivial⟩)⟩) ?_; clear h
  rintro k a w ⟨hi_k, h⟩
  refine gC h (zs (zr (zp (.lss rfl rfl) (zn (zs ?_))))); clear h; intro a w h
  refine cond_split h rfl (fun hc14 => ?_) (fun hc14 => ?_)
  · skip
    have hlt_k : k < l.length := by have := of_decide_eq_true hc14; omega
    obtain ⟨B_ad, O_ad, rfl⟩ := h.row_addr (ad := ad) (M := List.map encn l) mm (by intro e; have := congrArg List.length e; simp only [List.length_map, List.length_nil] at this; omega)
    have hxk := hx (l.getD k 0) (getD_mem _ hlt_k)
    have hlk := lenQ_ups (l.take k) 1 (fun x hx' => hx x (List.mem_of_mem_take hx'))
    rw [List.length_take] at hlk
    have hl1 := lenQ_one
    refine gC h (zk (zs (zb (zs (zr (zp (.indexAddr rfl rfl (ix_45 _ _ _ _ _ (by omega))) (zD rfl mm (by rw [List.length_map]; omega) Tryz.isAgg3 Tryz.sizeOf3 (read_row (enc := encn) (l := l) 0 (by omega)) (.inr rfl) ?_))))))); clear h; intro a w h
    refine gL h (za rfl (zn (zs (zr (zm rfl (zm rfl (zn (zb ?_)))))))); clear h; intro a w h
    refine wp_loop_inv (fun (i : Nat) a w => i ≤ l.getD k 0 ∧ St 42 S w0 [(0, .int .i64 ((n : Nat) : Int)), (4, .pointer (some ⟨b4, 0, none⟩)), (5, .pointer (some ⟨b5, 0, none⟩)), (11, .slice (some ⟨B_ad, O_ad, none⟩) l.length c), (12, .int .i64 ((l.length : Nat) : Int)), (13, .int .i64 ((k : Nat) : Int)), (17, .int .i64 ((l.getD k 0 : Nat) : Int)), (18, .int .i64 ((i : Nat) : Int))] [(b5, .cells (Value.cells (encQ (upQ ((l.take k).foldl upQ 1) i))) 42 (0, 0)), (b4, .cells (Value.cells (encQ (0))) 42 (0, 0))] [Row (some ⟨B_ad, O_ad, none⟩) (List.map encn l)] a w) (fun i => l.getD k 0 - i) 0 (⟨Nat.zero_le _, by exact (h).sub (subL ⟨rfl, rfl, rfl, rfl, rfl, rfl, rfl, rfl, trivial⟩)⟩) ?_; clear h
    rintro i a w ⟨hi_i, h⟩
    refine gC h (zs (zr (zp (.lss rfl rfl) (zn (zs ?_))))); clear h; intro a w h
    refine cond_split h rfl (fun hc19 => ?_) (fun hc19 => ?_)
    · skip
      have hlt_i : i < l.getD k 0 := by have := of_decide_eq_true hc19; omega
      have hli := lenQ_up ((l.take k).foldl upQ 1) i (by omega)
      refine gC h (zk (zs (zb (zs (zr (zm rfl (za rfl (zn (yD mixed_YtfmbhcnanphckaaGreatDoor [0, 1, 2, 3, 4, 5] (floatsOK_none (by kernel_rfl)) (yd rfl rfl mr Tryz.isAgg42 Tryz.sizeOf42 (rd_5_0_5 _ _ _ _ _) ?_)))))))))); clear h
      refine yp rfl (.move rfl) (yp rfl (Pure1.cast (v' := (.int .i64 ((i + 1 : Nat) : Int))) (.add rfl rfl) (by show Value.int _ _ = Value.int _ _; congr 1)) (yv [_] rfl rfl Tryz.call20 (C_QInt _ (by omega) (by omega)) ?_))
      have hl24 := lenQ_int (((i + 1 : Nat) : Int)) (by omega) (by omega)
      refine yv [_, _] rfl rfl Tryz.call44 (C_QMul _ _ (by omega) (by omega)) ?_
      have hl25 := lenQ_mul (upQ ((l.take k).foldl upQ 1) i) (((((i + 1 : Nat) : Int) : Int) : Rat))
      refine yt rfl rfl rfl (st_5_0_5 _ _ _ _ _ _ _ _ _ _) uu Tryz.sizeOf42 rfl nb rfl ?_
      refine yn (zr (zp (Pure1.cast (v' := (.int .i64 ((i + 1 : Nat) : Int))) (.add rfl rfl) (by show Value.int _ _ = Value.int _ _; congr 1)) (zm rfl (zn ?_)))); intro a w h
      exact ⟨i + 1, ⟨by omega, h.sub sA⟩, by omega⟩
    · skip
      have heq_i : l.getD k 0 = i := by have := of_decide_eq_false hc19; omega
      subst heq_i
      refine gC h (ze (zr (zp (Pure1.cast (v' := (.int .i64 ((k + 1 : Nat) : Int))) (.add rfl rfl) (by show Value.int _ _ = Value.int _ _; congr 1)) (zm rfl (zn ?_))))); clear h; intro a w h
      rw [← foldl_take_succ (f := upQ) l 1 k 0 hlt_k] at h
      exact ⟨k + 1, ⟨by omega, (h.factsSub (by simp)).sub sA⟩, by omega⟩
  · skip
    have heq_k : l.length = k := by have := of_decide_eq_false hc14; omega
    subst heq_k
    refine gC h (ze (zs (zs (zr (zm rfl (zm rfl (zn (zb ?_)))))))); clear h; intro a w h
    rw [List.take_length] at h
    refine wp_loop_inv (fun (m : Nat) a w => m ≤ n ∧ St 42 S w0 [(0, .int .i64 ((n : Nat) : Int)), (4, .pointer (some ⟨b4, 0, none⟩)), (5, .pointer (some ⟨b5, 0, none⟩)), (11, .slice ad l.length c), (12, .int .i64 ((l.length : Nat) : Int)), (13, .int .i64 ((l.length : Nat) : Int)), (28, .int .i64 ((n : Nat) : Int)), (29, .int .i64 ((m : Nat) : Int))] [(b5, .cells (Value.cells (encQ (downQ (l.foldl upQ 1) m))) 42 (0, 0)), (b4, .cells (Value.cells (encQ (0))) 42 (0, 0))] [Row ad (List.map encn l)] a w) (fun m => n - m) 0 (⟨Nat.zero_le _, by exact (h).sub (subL ⟨rfl, rfl, rfl, rfl, rfl, rfl, rfl, rfl, trivial⟩)⟩) ?_; clear h
    rintro m a w ⟨hi_m, h⟩
    refine gC h (zs (zr (zp (.lss rfl rfl) (zn (zs ?_))))); clear h; intro a w h
    refine cond_split h rfl (fun hc30 => ?_) (fun hc30 => ?_)
    · skip
      have hlt_m : m < n := by have := of_decide_eq_true hc30; omega
      have hlm := lenQ_down (l.foldl upQ 1) m (by omega)
      have hlk := lenQ_ups l 1 hx
      have hl1 := lenQ_one
      refine gC h (zk (zs (zb (zs (zr (zm rfl (za rfl (zn (yD mixed_YtfmbhcnanphckaaGreatDoor [0, 1, 2, 3, 4, 5, 6, 7, 8] (floatsOK_none (by kernel_rfl)) (yd rfl rfl mr Tryz.isAgg42 Tryz.sizeOf42 (rd_5_0_5 _ _ _ _ _) ?_)))))))))); clear h
      refine yp rfl (.move rfl) (yp rfl (Pure1.cast (v' := (.int .i64 ((m + 1 : Nat) : Int))) (.add rfl rfl) (by show Value.int _ _ = Value.int _ _; congr 1)) (yv [_] rfl rfl Tryz.call20 (C_QInt _ (by omega) (by omega)) ?_))
      have hl36 := lenQ_int (((m + 1 : Nat) : Int)) (by omega) (by omega)
      refine yv [_, _] rfl rfl Tryz.call90 (C_QDiv _ _ int_ne (by omega) (by omega)) (yp rfl (.move rfl) (yp rfl (.extract rfl (fun _ => rfl)) (yp rfl (.extract rfl (fun _ => rfl)) (yt rfl rfl rfl (st_5_0_5 _ _ _ _ _ _ _ _ _ _) uu Tryz.sizeOf42 rfl nb rfl ?_))))
      refine yn (zr (zp (Pure1.cast (v' := (.int .i64 ((m + 1 : Nat) : Int))) (.add rfl rfl) (by show Value.int _ _ = Value.int _ _; congr 1)) (zm rfl (zn ?_)))); intro a w h
      exact ⟨m + 1, ⟨by omega, h.sub sA⟩, by omega⟩
    · skip
      have heq_m : n = m := by have := of_decide_eq_false hc30; omega
      subst heq_m
      refine gC h (ze (zs (zr (zd rfl mr Tryz.isAgg42 Tryz.sizeOf42 (rd_5_0_5 _ _ _ _ _) ?_)))); clear h; intro a w h
      refine gL h (zt' rfl rfl (st_5_0_5 _ _ _ _ _ _ _ _ _ _) uu Tryz.sizeOf42 rfl nb rfl ?_); clear h; intro a w h
      refine wpList_nil (wp_ret ?_)
      refine retV h (results1 h rfl (.cell rfl mr Tryz.isAgg42 Tryz.sizeOf42 (rd_5_0_5 _ _ _ _ _))) ?_
      rfl

theorem ix3 (a b c m : Nat) (h : m < 3) (w : World) : (Instr.index 56 (.agg #[.int .i64 (a : Int), .int .i64 (b : Int), .int .i64 (c : Int)]) (.int .i64 (m : Int))).run Tryz.prog w = .ok (.int .i64 (([a, b, c].getD m 0 : Nat) : Int)) w := by
  match m, h with
  | 0, _ => unfold Instr.index; simp [go_sem]
  | 1, _ => unfold Instr.index; simp [go_sem]
  | 2, _ => unfold Instr.index; simp [go_sem]
theorem lenQ_moment (i j k : Nat) (hi : i ≤ 48) (hj : j ≤ 48) (hk : k ≤ 48) : lenQ (momentQ i j k) ≤ 1000 := by
  unfold momentQ ratioQ
  have h1 := lenQ_mul ((2 : Int) : Rat) (downQ ([i, j, k].foldl upQ 1) (i + j + k + 2))
  have h2 := lenQ_int 2 (by omega) (by omega)
  have h3 := lenQ_down ([i, j, k].foldl upQ 1) (i + j + k + 2) (by omega)
  have h4 := lenQ_ups [i, j, k] 1 (by simp; omega)
  have h5 := lenQ_one
  simp only [List.length_cons, List.length_nil] at h4
  omega

theorem C_Moment (i j k : Nat) (hi : i ≤ 48) (hj : j ≤ 48) (hk : k ≤ 48) :
    CtrV Tryz.prog 45 [.int .i64 ((i : Nat) : Int), .int .i64 ((j : Nat) : Int), .int .i64 ((k : Nat) : Int)] (encQ (momentQ i j k)) := by
  refine fn_intro Tryz.func45 rfl Tryz.ntmps45 nb ?_
  intro S w0 a hS h
  refine gC h (zs (zr (zz zeroQ fun b6 => zn (zs (zs (zr (zm rfl (zm rfl (zm rfl (zp (.build [(_, _), (_, _), (_, _)] rfl (bd_56_0_1_2 _ _ _)) (zm rfl (zn (zb ?_))))))))))))); clear h; intro a w h
  refine wp_loop_inv (fun (m : Nat) a w => m ≤ 3 ∧ St 37 S w0 [(0, .int .i64 ((i : Nat) : Int)), (1, .int .i64 ((j : Nat) : Int)), (2, .int .i64 ((k : Nat) : Int)), (6, .pointer (some ⟨b6, 0, none⟩)), (12, .agg #[.int .i64 (i : Int), .int .i64 (j : Int), .int .i64 (k : Int)]), (13, .int .i64 ((m : Nat) : Int))] [(b6, .cells (Value.cells (encQ (0))) 42 (0, 0))] [] a w) (fun m => 3 - m) 0 (⟨Nat.zero_le _, by exact (h).sub (subL ⟨rfl, rfl, rfl, rfl, rfl, rfl, trivial⟩)⟩) ?_; clear h
  rintro m a w ⟨hi_m, h⟩
  refine gC h (zs (zr (zp (.lss rfl rfl) (zn (zs ?_))))); clear h; intro a w h
  refine cond_split h rfl (fun hc14 => ?_) (fun hc14 => ?_)
  · skip
    have hlt_m : m < 3 := by have := of_decide_eq_true hc14; omega
    have hb : [i, j, k].getD m 0 ≤ 48 := by match m, hlt_m with | 0, _ => exact hi | 1, _ => exact hj | 2, _ => exact hk
    refine gC h (zk (zs (zb (zs (zr (zp (.index rfl rfl (fun w => ix3 i j k m (by omega) w)) (za rfl (zn (zs (zr (zm rfl (zp (.lss rfl rfl) ?_)))))))))))); clear h; intro a w h
    refine by_bool h (fun hc17 h => (by exfalso; have := of_decide_eq_true hc17; omega)) (fun hc17 h => ?_)
    refine gL h (zm rfl (zq 18 rfl rfl (.move rfl) (zq 18 rfl rfl (.gtr rfl rfl) ?_))); clear h; intro a w h
    refine by_bool h (fun hc20 h => (by exfalso; have := of_decide_eq_true hc20; omega)) (fun hc20 h => ?_)
    refine gL h (zp (.pickF rfl rfl) (zn ?_)); clear h; intro a w h
    change Code.wp _ _ _ _ _
    refine cond_false h rfl ?_
    refine gC h (zk (zr (zp (Pure1.cast (v' := (.int .i64 ((m + 1 : Nat) : Int))) (.add rfl rfl) (by show Value.int _ _ = Value.int _ _; congr 1)) (zm rfl (zn ?_))))); clear h; intro a w h
    exact ⟨m + 1, ⟨by omega, h.sub sA⟩, by omega⟩
  · skip
    have heq_m : 3 = m := by have := of_decide_eq_false hc14; omega
    subst heq_m
    refine gC h (ze (zs (zr (zv [_] rfl Tryz.call20 (C_QInt _ (by omega) (by omega)) ?_)))); clear h; intro a w h
    have hl24 := lenQ_int (2) (by omega) (by omega)
    refine gL h (zm rfl (zm rfl (zp (Pure1.cast (v' := (.int .i64 ((i + j : Nat) : Int))) (.add rfl rfl) (by show Value.int _ _ = Value.int _ _; congr 1)) (zm rfl (zp (Pure1.cast (v' := (.int .i64 (((i + j) + k : Nat) : Int))) (.add rfl rfl) (by show Value.int _ _ = Value.int _ _; congr 1)) (zp (Pure1.cast (v' := (.int .i64 ((((i + j) + k) + 2 : Nat) : Int))) (.add rfl rfl) (by show Value.int _ _ = Value.int _ _; congr 1)) (zm rfl (zm rfl (zm rfl (zB [(_, _), (_, _), (_, _)] rfl (bs_45_3_0_1_2 _ _ _) fun b34 => ?_)))))))))); clear h; intro a w h
    replace h := h.shareAll hS (List.map encn ([i, j, k])) rfl
    have hlr : lenQ (ratioQ (i + j + k + 2) [i, j, k]) ≤ 900 := by have := lenQ_down ([i, j, k].foldl upQ 1) (i + j + k + 2) (by omega); have h4 := lenQ_ups [i, j, k] 1 (by simp; omega); have := lenQ_one; simp only [List.length_cons, List.length_nil] at h4; unfold ratioQ; omega
    refine gL h (zw [_, _] rfl Tryz.call86 (C_iratio (i + j + k + 2) [i, j, k] _ _ (by omega) (by simp) (by simp; omega)) (zv [_, _] rfl Tryz.call44 (C_QMul _ _ (by omega) (by omega)) ?_)); clear h; intro a w h
    have hl36 := lenQ_mul (((2 : Int) : Rat)) (ratioQ (i + j + k + 2) [i, j, k])
    refine gL h (zt' rfl rfl (st_5_0_5 _ _ _ _ _ _ _ _ _ _) uu Tryz.sizeOf42 rfl nb rfl ?_); clear h; intro a w h
    refine wpList_nil (wp_ret ?_)
    refine retV h (results1 h rfl (.cell rfl mr Tryz.isAgg42 Tryz.sizeOf42 (rd_5_0_5 _ _ _ _ _))) ?_
    rfl

theorem lenQ_pow (x : Rat) : ∀ i : Nat, lenQ (x ^ i) ≤ 2 + i * lenQ x
  | 0 => by rw [Rat.pow_zero]; have := lenQ_one; omega
  | i + 1 => by
    rw [Rat.pow_succ]
    have h1 := lenQ_pow x i
    have h2 := lenQ_mul (x ^ i) x
    rw [Nat.add_mul]; omega
theorem lenQ_powle (x : Rat) (i : Nat) (k m : Nat) (hx : lenQ x ≤ k) (hi : i ≤ m) : lenQ (x ^ i) ≤ 2 + m * k :=
  Nat.le_trans (lenQ_pow x i) (Nat.add_le_add_left (Nat.mul_le_mul hi hx) 2)

theorem C_power (x : Rat) (n : Nat) (hx : lenQ x ≤ 1000) (hn : n ≤ 100) : CtrV Tryz.prog 62 [encQ x, .int .i64 ((n : Nat) : Int)] (encQ (x ^ n)) := by
  refine fn_intro Tryz.func62 rfl Tryz.ntmps62 nb ?_
  intro S w0 a hS h
  refine gC h (zs (zr (zx rfl fun b2 => zz zeroQ fun b4 => zn (zs (zr (zv [_] rfl Tryz.call20 (C_QInt _ (by omega) (by omega)) ?_)))))); clear h; intro a w h
  have hl6 := lenQ_int (1) (by omega) (by omega)
  refine gL h (zz zeroQ fun b5 => zt' rfl rfl (st_5_0_5 _ _ _ _ _ _ _ _ _ _) uu Tryz.sizeOf42 rfl nb rfl ?_); clear h; intro a w h
  refine gL h (zn (zs (zs (zr (zm rfl (zm rfl (zn (zb ?_)))))))); clear h; intro a w h
  refine wp_loop_inv (fun (i : Nat) a w => i ≤ n ∧ St 15 S w0 [(2, .pointer (some ⟨b2, 0, none⟩)), (4, .pointer (some ⟨b4, 0, none⟩)), (5, .pointer (some ⟨b5, 0, none⟩)), (7, .int .i64 ((n : Nat) : Int)), (8, .int .i64 ((i : Nat) : Int))] [(b5, .cells (Value.cells (encQ (x ^ i))) 42 (0, 0)), (b4, .cells (Value.cells (encQ (0))) 42 (0, 0)), (b2, .cells (Value.cells (encQ (x))) 42 (0, 0))] [] a w) (fun i => n - i) 0 (⟨Nat.zero_le _, by rw [Rat.pow_zero]; exact (h).sub (subL ⟨rfl, rfl, rfl, rfl, rfl, trivial⟩)⟩) ?_; clear h
  rintro i a w ⟨hi_i, h⟩
  refine gC h (zs (zr (zp (.lss rfl rfl) (zn (zs ?_))))); clear h; intro a w h
  refine cond_split h rfl (fun hc9 => ?_) (fun hc9 => ?_)
  · skip
    have hlt_i : i < n := by have := of_decide_eq_true hc9; omega
    have hp := lenQ_powle x i 1000 100 hx (by omega)
    refine gC h (zk (zs (zb (zr (zd rfl mr Tryz.isAgg42 Tryz.sizeOf42 (rd_5_0_5 _ _ _ _ _) ?_))))); clear h; intro a w h
    refine gL h (zd rfl mr Tryz.isAgg42 Tryz.sizeOf42 (rd_5_0_5 _ _ _ _ _) ?_); clear h; intro a w h
    refine gL h (zv [_, _] rfl Tryz.call44 (C_QMul _ _ (by omega) (by omega)) ?_); clear h; intro a w h
    have hl12 := lenQ_mul (x ^ i) (x)
    refine gL h (zt' rfl rfl (st_5_0_5 _ _ _ _ _ _ _ _ _ _) uu Tryz.sizeOf42 rfl nb rfl ?_); clear h; intro a w h
    refine gL h (zn (zr (zp (Pure1.cast (v' := (.int .i64 ((i + 1 : Nat) : Int))) (.add rfl rfl) (by show Value.int _ _ = Value.int _ _; congr 1)) (zm rfl (zn ?_))))); clear h; intro a w h
    rw [← Rat.pow_succ] at h
    exact ⟨i + 1, ⟨by omega, h.sub sA⟩, by omega⟩
  · skip
    have heq_i : n = i := by have := of_decide_eq_false hc9; omega
    subst heq_i
    refine gC h (ze (zs (zr (zd rfl mr Tryz.isAgg42 Tryz.sizeOf42 (rd_5_0_5 _ _ _ _ _) ?_)))); clear h; intro a w h
    refine gL h (zt' rfl rfl (st_5_0_5 _ _ _ _ _ _ _ _ _ _) uu Tryz.sizeOf42 rfl nb rfl ?_); clear h; intro a w h
    refine wpList_nil (wp_ret ?_)
    refine retV h (results1 h rfl (.cell rfl mr Tryz.isAgg42 Tryz.sizeOf42 (rd_5_0_5 _ _ _ _ _))) ?_
    rfl

theorem C_rratio (n d : Int) (h0 : -9223372036854775808 ≤ n) (h1 : n ≤ 9223372036854775807) (h2 : -9223372036854775808 ≤ d) (h3 : d ≤ 9223372036854775807) (hd : d ≠ 0) :
    CtrV Tryz.prog 46 [.int .i64 n, .int .i64 d] (encQ ((n : Rat) / (d : Rat))) := by
  refine fn_intro Tryz.func46 rfl Tryz.ntmps46 nb ?_
  intro S w0 a hS h
  refine gC h (zs (zr (zz zeroQ fun b4 => zn (zs (zr (zm rfl (zm rfl (zv [_, _] rfl Tryz.call50 (C_QOf _ _ (by omega) (by omega) (by omega) (by omega) (by omega)) ?_)))))))); clear h; intro a w h
  have hl10 := lenQ_of (n) (d) (by omega) (by omega) (by omega) (by omega)
  refine gL h (zm rfl (zp (.extract rfl (fun _ => rfl)) (zp (.extract rfl (fun _ => rfl)) (zz zeroQ fun b5 => zt' rfl rfl (st_5_0_5 _ _ _ _ _ _ _ _ _ _) uu Tryz.sizeOf42 rfl nb rfl ?_)))); clear h; intro a w h
  refine gL h (za rfl (zn (zs (zr (zd rfl mr Tryz.isAgg42 Tryz.sizeOf42 (rd_5_0_5 _ _ _ _ _) ?_))))); clear h; intro a w h
  refine gL h (zt' rfl rfl (st_5_0_5 _ _ _ _ _ _ _ _ _ _) uu Tryz.sizeOf42 rfl nb rfl ?_); clear h; intro a w h
  refine wpList_nil (wp_ret ?_)
  refine retV h (results1 h rfl (.cell rfl mr Tryz.isAgg42 Tryz.sizeOf42 (rd_5_0_5 _ _ _ _ _))) ?_
  rfl
end Go.Proofs.YtfmbhcnanphckaaGreatDoor
