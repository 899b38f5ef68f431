/- Written by a program of ours (gen.py) out of short specifications. By an AI agent. -/
import Derived.Test.YtmajjidkkpkhcaaGreatNats2
import Derived.Test.YtmajjidkkpkhcaaGreatFxZ
set_option linter.unusedVariables false
set_option linter.unusedSimpArgs false
set_option maxRecDepth 4000
namespace Go.Proofs.YtmajjidkkpkhcaaGreat
open Go Go.Proofs Go.Fx
attribute [local irreducible] Oper.wp Code.wp wpList Fx.Head wpOp

theorem bi_min (x y : Int) (w : World) (ty : TypeId) (cs : Array Bool) : (Go.builtin .min #[3, 3] ty cs #[.int .i64 x, .int .i64 y]).run Tryz.prog w = .ok (.value (.int .i64 (min x y))) w := by
  simp [go_sem]; rw [Int.min_def]; split <;> split <;> omega
theorem bi_max (x y : Int) (w : World) (ty : TypeId) (cs : Array Bool) : (Go.builtin .max #[3, 3] ty cs #[.int .i64 x, .int .i64 y]).run Tryz.prog w = .ok (.value (.int .i64 (max x y))) w := by
  simp [go_sem]; rw [Int.max_def]; split <;> split <;> omega
theorem ex_Add64 (x y c : Nat) (hc : c ≤ 1) (w : World) : (callFunc 120 #[.int .u64 (x : Int), .int .u64 (y : Int), .int .u64 (c : Int)]).run Tryz.prog w = .ok (.value (.tuple #[.int .u64 (((x + y + c) % 18446744073709551616 : Nat) : Int), .int .u64 (((x + y + c) / 18446744073709551616 : Nat) : Int)])) w :=
  run_Add64 Tryz.func120 (by kernel_rfl) (by kernel_rfl) (by kernel_rfl) (by kernel_rfl) x y c hc w

theorem C_sign (n : Int) : CtrV Tryz.prog 140 [.int .i64 n] (.int .i64 (max (-1) (min 1 n))) := by
  refine fn_intro Tryz.func140 rfl Tryz.ntmps140 nb ?_
  intro S w0 a hS h
  refine gC h (zs (zr (za rfl (zn (zs (zr (zm rfl (zp (.builtin [_, _] rfl (fun w ty cs => bi_min _ _ w ty cs)) (zp (.builtin [_, _] rfl (fun w ty cs => bi_max _ _ w ty cs)) (za rfl (zn (zt ?_)))))))))))); clear h; intro a w h
  refine retV h (results1 h rfl (.tmp rfl)) ?_
  rfl

theorem C_cmp (n m : Nat) (a1 : Option Addr) (c1 : Nat) (a2 : Option Addr) (c2 : Nat) (hn : (wds n).length ≤ 1099511627776) (hm : (wds m).length ≤ 1099511627776) :
    CtrW Tryz.prog 132 [.slice a1 (wds n).length c1, .slice a2 (wds m).length c2] [Row a1 (u32s (wds n)), Row a2 (u32s (wds m))] (.int .i64 (cmpI n m)) := by
  refine fn_intro Tryz.func132 rfl Tryz.ntmps132 nb ?_
  intro S w0 a hS h
  refine gC h (zs (zr (za rfl (zn (zs (zs (zr (zm rfl (zp (.builtin [_] rfl (len_slice_114 _ _ _)) (zm rfl (zp (.builtin [_] rfl (len_slice_114 _ _ _)) (zp (.neq rfl rfl) (zn ?_))))))))))))); clear h; intro a w h
  change Code.wp _ _ _ _ _
  refine cond_split h rfl (fun hc10 => ?_) (fun hc10 => ?_)
  · skip
    skip
    refine gC h (zs (zr (zm rfl (zp (.builtin [_] rfl (len_slice_114 _ _ _)) (zm rfl (zp (.builtin [_] rfl (len_slice_114 _ _ _)) (zp (.sub rfl rfl) (zv [_] rfl Tryz.call140 (C_sign _) (za rfl (zn (zt ?_))))))))))); clear h; intro a w h
    refine retV h (results1 h rfl (.tmp rfl)) ?_
    unfold cmpI
    have hne : (wds n).length ≠ (wds m).length := natNe hc10
    rcases Nat.lt_or_gt_of_ne hne with h1 | h1
    · have := wds_len_lt h1; rw [if_pos this]; congr 1; rw [Int.min_eq_right (by omega), Int.max_eq_left (by omega)]
    · have h2 := wds_len_lt h1; rw [if_neg (by omega), if_pos h2]; congr 1; rw [Int.min_eq_left (by omega)]; rfl
  · skip
    have hl : (wds n).length = (wds m).length := natEq hc10
    refine gC h (zk (zs (zs (zr (zm rfl (zp (.builtin [_] rfl (len_slice_114 _ _ _)) (zp (.sub rfl rfl) (za rfl (zn (zb ?_)))))))))); clear h; intro a w h
    refine wp_loop_inv (fun (k : Nat) a w => k ≤ (wds n).length ∧ (wds n).drop k = (wds m).drop k ∧ St 42 S w0 [(0, .slice a1 (wds n).length c1), (1, .slice a2 (wds m).length c2), (5, .int .i64 ((k : Int) - 1))] [] [Row a1 (u32s (wds n)), Row a2 (u32s (wds m))] a w) (fun k => k) ((wds n).length) (⟨Nat.le_refl _, by rw [List.drop_eq_nil_of_le (Nat.le_refl _), hl, List.drop_eq_nil_of_le (Nat.le_refl _)], h.sub (subL ⟨rfl, rfl, rfl, trivial⟩)⟩) ?_; clear h
    rintro k a w ⟨hN, hd, h⟩
    refine gC h (zs (zs (zr (zm rfl (zp (.geq rfl rfl) (zn ?_)))))); clear h; intro a w h
    change Code.wp _ _ _ _ _
    refine cond_split h rfl (fun hc21 => ?_) (fun hc21 => ?_)
    · skip
      have hk : 0 < k := by simp at hc21; omega
      have hN' : k ≤ (wds m).length := hl ▸ hN
      obtain ⟨b1, o1, rfl⟩ := h.row_addr (ad := a1) (M := u32s (wds n)) List.mem_cons_self (by simp; intro e; rw [e] at hN; simp at hN; omega)
      obtain ⟨b2, o2, rfl⟩ := h.row_addr (ad := a2) (M := u32s (wds m)) (List.mem_cons_of_mem _ List.mem_cons_self) (by simp; intro e; rw [e] at hN'; simp at hN'; omega)
      refine gC h (zk (zs (zb (zs (yD mixed_YtmajjidkkpkhcaaGreat [0, 1, 2, 3, 4, 5, 6, 7, 8] (floatsOK_none (by kernel_rfl)) (yp rfl (.move rfl) (yp rfl (Pure1.cast (v' := .int .i64 ((k - 1 : Nat) : Int)) (.move rfl) (by show Value.int _ _ = Value.int _ _; congr 1; omega)) (yp rfl (.indexAddr rfl rfl (ix_114 _ _ _ _ _ (by omega))) ?_)))))))); clear h
      refine head_loadRow rfl (by kernel_rfl) rfl mm (by simp; omega) Tryz.isAgg23 Tryz.sizeOf23 (read_row 0 (by omega)) (.inr rfl) (by decide) ?_
      refine yp rfl (.move rfl) (yp rfl (Pure1.cast (v' := .int .i64 ((k - 1 : Nat) : Int)) (.move rfl) (by show Value.int _ _ = Value.int _ _; congr 1; omega)) (yp rfl (.indexAddr rfl rfl (ix_114 _ _ _ _ _ (by omega))) ?_))
      refine head_loadRow rfl (by kernel_rfl) rfl mm (by simp; omega) Tryz.isAgg23 Tryz.sizeOf23 (read_row 0 (by omega)) (.inr rfl) (by decide) ?_
      refine yp rfl (.neq rfl rfl) (yn ?_); intro a w h
      change Code.wp _ _ _ _ _
      refine cond_split h rfl (fun hc32 => ?_) (fun hc32 => ?_)
      · skip
        skip
        refine gC h (zs (zs (yD mixed_YtmajjidkkpkhcaaGreat [0, 1, 2, 3, 4, 5, 6, 7, 8] (floatsOK_none (by kernel_rfl)) (yp rfl (.move rfl) (yp rfl (Pure1.cast (v' := .int .i64 ((k - 1 : Nat) : Int)) (.move rfl) (by show Value.int _ _ = Value.int _ _; congr 1; omega)) (yp rfl (.indexAddr rfl rfl (ix_114 _ _ _ _ _ (by omega))) ?_)))))); clear h
        refine head_loadRow rfl (by kernel_rfl) rfl mm (by simp; omega) Tryz.isAgg23 Tryz.sizeOf23 (read_row 0 (by omega)) (.inr rfl) (by decide) ?_
        refine yp rfl (.move rfl) (yp rfl (Pure1.cast (v' := .int .i64 ((k - 1 : Nat) : Int)) (.move rfl) (by show Value.int _ _ = Value.int _ _; congr 1; omega)) (yp rfl (.indexAddr rfl rfl (ix_114 _ _ _ _ _ (by omega))) ?_))
        refine head_loadRow rfl (by kernel_rfl) rfl mm (by simp; omega) Tryz.isAgg23 Tryz.sizeOf23 (read_row 0 (by omega)) (.inr rfl) (by decide) ?_
        refine yp rfl (.lss rfl rfl) (yn ?_); intro a w h
        change Code.wp _ _ _ _ _
        refine cond_split h rfl (fun hc41 => ?_) (fun hc41 => ?_)
        · skip
          refine gC h (zs (zr (za rfl (zn (zt ?_))))); clear h; intro a w h
          refine retV h (results1 h rfl (.tmp rfl)) ?_
          have h1 : (wds n).getD (k - 1) 0 < (wds m).getD (k - 1) 0 := by simpa using hc41
          have h2 := valW_cmp (Wd.wds n) (Wd.wds m) h1 (by rw [Nat.sub_add_cancel hk]; exact hd)
          rw [valW_wds, valW_wds] at h2
          unfold cmpI; rw [if_pos h2]
        · skip
          refine gC h (zk (zs (zr (za rfl (zn (zt ?_)))))); clear h; intro a w h
          refine retV h (results1 h rfl (.tmp rfl)) ?_
          have h0 : (wds n).getD (k - 1) 0 ≠ (wds m).getD (k - 1) 0 := natNe hc32
          have h0' : ¬ (wds n).getD (k - 1) 0 < (wds m).getD (k - 1) 0 := by simpa using hc41
          have h1 : (wds m).getD (k - 1) 0 < (wds n).getD (k - 1) 0 := by omega
          have h2 := valW_cmp (Wd.wds m) (Wd.wds n) h1 (by rw [Nat.sub_add_cancel hk]; exact hd.symm)
          rw [valW_wds, valW_wds] at h2
          unfold cmpI; rw [if_neg (by omega), if_pos h2]
      · skip
        have he : (wds n).getD (k - 1) 0 = (wds m).getD (k - 1) 0 := natEq hc32
        refine gC h (zk (zr (zm rfl (zp (Pure1.cast (v' := .int .i64 (((k - 1 : Nat) : Int) - 1)) (.sub rfl rfl) (by show Value.int _ _ = Value.int _ _; congr 1; omega)) (za rfl (zn ?_)))))); clear h; intro a w h
        refine ⟨k - 1, ⟨by omega, drop_step hl (by omega) he (by rw [Nat.sub_add_cancel hk]; exact hd), h.sub sA⟩, by omega⟩
    · skip
      have hk : k = 0 := by simp at hc21; omega
      refine gC h (ze (zs (zr (za rfl (zn (zt ?_)))))); clear h; intro a w h
      refine retV h (results1 h rfl (.tmp rfl)) ?_
      subst hk
      have e : n = m := by rw [← valW_wds n, ← valW_wds m]; simp at hd; rw [hd]
      unfold cmpI; rw [if_neg (by omega), if_neg (by omega)]

theorem C_Cmp (n m : Nat) (hn : (wds n).length ≤ 1099511627776) (hm : (wds m).length ≤ 1099511627776) : CtrV Tryz.prog 115 [encN n, encN m] (.int .i64 (cmpI n m)) := by
  refine fn_intro Tryz.func115 rfl Tryz.ntmps115 nb ?_
  intro S w0 a hS h
  refine gC h (zs (zr (zx rfl fun b2 => zx rfl fun b3 => za rfl (zn (zs (zs (zr (zp (.fieldAddr rfl (fa_42_1 _ _)) (zd rfl mr Tryz.isAgg9 Tryz.sizeOf9 (rs_2_1 _ _) ?_))))))))); clear h; intro a w h
  refine gL h (zp (.binOp rfl rfl (fun _ => run_seql _ _ _ _ _)) (zm rfl ?_)); clear h; intro a w h
  refine by_bool h (fun hc8 h => ?_) (fun hc8 h => ?_)
  · skip
    have ha : n < 18446744073709551616 := bigN_empty.1 (by simpa using hc8)
    refine gL h (zq 8 rfl rfl (.fieldAddr rfl (fa_42_1 _ _)) ?_); clear h; intro a w h
    refine wpl_guard 8 h rfl rfl (op_load h rfl mr Tryz.isAgg9 Tryz.sizeOf9 (rs_2_1 _ _) (by decide) ?_); clear h; intro a h
    refine gL h (zq 8 rfl rfl (.binOp rfl rfl (fun _ => run_seql _ _ _ _ _)) ?_); clear h; intro a w h
    refine by_bool h (fun hc11 h => ?_) (fun hc11 h => ?_)
    · skip
      have hb : m < 18446744073709551616 := bigN_empty.1 (by simpa using hc11)
      refine gL h (zp (.pickT rfl rfl) (zn ?_)); clear h; intro a w h
      change Code.wp _ _ _ _ _
      refine cond_true h rfl ?_
      refine gC h (zs (zb (zs (zr (zp (.fieldAddr rfl (fa_42_0 _ _)) (zd rfl mr Tryz.isAgg40 Tryz.sizeOf40 (rs_2_0 _ _) ?_)))))); clear h; intro a w h
      refine gL h (zp (.fieldAddr rfl (fa_42_0 _ _)) (zd rfl mr Tryz.isAgg40 Tryz.sizeOf40 (rs_2_0 _ _) ?_)); clear h; intro a w h
      refine gL h (zp (.lss rfl rfl) ?_); clear h; intro a w h
      refine by_bool h (fun hc18 h => ?_) (fun hc18 h => ?_)
      · skip
        refine gL h (za rfl (zn ?_)); clear h; intro a w h
        change Code.wp _ _ _ _ _
        refine cond_true h rfl ?_
        refine gC h (zs (zr (za rfl (zn (zt ?_))))); clear h; intro a w h
        refine retV h (results1 h rfl (.tmp rfl)) ?_
        rw [lowN_small ha, lowN_small hb] at hc18; have : n < m := by simpa using hc18
        unfold cmpI; rw [if_pos this]
      · skip
        refine gL h (za rfl (zn ?_)); clear h; intro a w h
        change Code.wp _ _ _ _ _
        refine cond_false h rfl ?_
        refine gC h (zs (zr (zp (.fieldAddr rfl (fa_42_0 _ _)) (zd rfl mr Tryz.isAgg40 Tryz.sizeOf40 (rs_2_0 _ _) ?_)))); clear h; intro a w h
        refine gL h (zp (.fieldAddr rfl (fa_42_0 _ _)) (zd rfl mr Tryz.isAgg40 Tryz.sizeOf40 (rs_2_0 _ _) ?_)); clear h; intro a w h
        refine gL h (zp (.gtr rfl rfl) ?_); clear h; intro a w h
        refine by_bool h (fun hc24 h => ?_) (fun hc24 h => ?_)
        · skip
          refine gL h (za rfl (zn ?_)); clear h; intro a w h
          change Code.wp _ _ _ _ _
          refine cond_true h rfl ?_
          refine gC h (zs (zr (za rfl (zn (zt ?_))))); clear h; intro a w h
          refine retV h (results1 h rfl (.tmp rfl)) ?_
          rw [lowN_small ha, lowN_small hb] at hc18 hc24; have h1 : m < n := by simpa using hc24
          unfold cmpI; rw [if_neg (by omega), if_pos h1]
        · skip
          refine gL h (za rfl (zn ?_)); clear h; intro a w h
          change Code.wp _ _ _ _ _
          refine cond_false h rfl ?_
          refine gC h (zk (zs (zr (za rfl (zn (zt ?_)))))); clear h; intro a w h
          refine retV h (results1 h rfl (.tmp rfl)) ?_
          rw [lowN_small ha, lowN_small hb] at hc18 hc24; have h1 : ¬ m < n := by simpa using hc24
          have h2 : ¬ n < m := by simpa using hc18
          unfold cmpI; rw [if_neg h2, if_neg h1]
    · skip
      have hb : ¬ m < 18446744073709551616 := fun hn => by have := bigN_empty.2 hn; simp [this] at hc11
      refine gL h (zp (.pickT rfl rfl) (zn ?_)); clear h; intro a w h
      change Code.wp _ _ _ _ _
      refine cond_false h rfl ?_
      refine gC h (zk (zs (yD mixed_YtmajjidkkpkhcaaGreat [0, 2, 1, 3, 4, 5] (floatsOK_none (by kernel_rfl)) (yd rfl rfl mr Tryz.isAgg42 Tryz.sizeOf42 (rd_2_0_2 _ _) ?_)))); clear h
      refine yd rfl rfl mr Tryz.isAgg42 Tryz.sizeOf42 (rd_2_0_2 _ _) ?_
      refine yf [_] rfl rfl Tryz.call78 (C_words n hn) ?_; rintro v26 Ψ26 ⟨a1, c1, rfl, hc1, rfl⟩
      refine yf [_] rfl rfl Tryz.call78 (C_words m hm) ?_; rintro v28 Ψ28 ⟨a2, c2, rfl, hc2, rfl⟩
      refine yw [_, _] rfl rfl Tryz.call132 (C_cmp n m a1 c1 a2 c2 hn hm) (yp rfl (.assign rfl) (yn (zt ?_))); intro a w h
      refine retV h (results1 h rfl (.tmp rfl)) ?_
      rfl
  · skip
    have ha : ¬ n < 18446744073709551616 := fun hn => by have := bigN_empty.2 hn; simp [this] at hc8
    refine gL h (zo 8 rfl rfl rfl (zo 8 rfl rfl rfl (zo 8 rfl rfl rfl (zp (.pickF rfl rfl) (zn ?_))))); clear h; intro a w h
    change Code.wp _ _ _ _ _
    refine cond_false h rfl ?_
    refine gC h (zk (zs (yD mixed_YtmajjidkkpkhcaaGreat [0, 2, 1, 3, 4, 5] (floatsOK_none (by kernel_rfl)) (yd rfl rfl mr Tryz.isAgg42 Tryz.sizeOf42 (rd_2_0_2 _ _) ?_)))); clear h
    refine yd rfl rfl mr Tryz.isAgg42 Tryz.sizeOf42 (rd_2_0_2 _ _) ?_
    refine yf [_] rfl rfl Tryz.call78 (C_words n hn) ?_; rintro v26 Ψ26 ⟨a1, c1, rfl, hc1, rfl⟩
    refine yf [_] rfl rfl Tryz.call78 (C_words m hm) ?_; rintro v28 Ψ28 ⟨a2, c2, rfl, hc2, rfl⟩
    refine yw [_, _] rfl rfl Tryz.call132 (C_cmp n m a1 c1 a2 c2 hn hm) (yp rfl (.assign rfl) (yn (zt ?_))); intro a w h
    refine retV h (results1 h rfl (.tmp rfl)) ?_
    rfl

theorem C_Add32 (x y c : Nat) (hx : x < 4294967296) (hy : y < 4294967296) (hc : c ≤ 1) :
    CtrV Tryz.prog 121 [.int .u32 (x : Int), .int .u32 (y : Int), .int .u32 (c : Int)] (.tuple #[.int .u32 (((x + y + c) % 4294967296 : Nat) : Int), .int .u32 (((x + y + c) / 4294967296 : Nat) : Int)]) := by
  refine fn_intro Tryz.func121 rfl Tryz.ntmps121 nb ?_
  intro S w0 a hS h
  refine gC h (zs (zr (za rfl (za rfl (zn (zs (zr (zm rfl (zp (.convert rfl (cv_23_40b _ (wrap_u64 _ (by omega) (by omega)))) (zm rfl (zp (.convert rfl (cv_23_40b _ (wrap_u64 _ (by omega) (by omega)))) (zp (.binOp rfl rfl (fun _ => run_addb _ _ _ _ _ (wrap_u64 _ (by omega) (by omega)))) (zm rfl (zp (.convert rfl (cv_23_40b _ (wrap_u64 _ (by omega) (by omega)))) (zp (Pure1.cast (v' := .int .u64 ((x + y + c : Nat) : Int)) (.binOp rfl rfl (fun _ => run_addb _ _ _ _ _ (wrap_u64 _ (by omega) (by omega)))) (by show Value.int _ _ = Value.int _ _; congr 1)) (za rfl (zn (zs (zr (zm rfl (zp (Pure1.cast (v' := .int .u32 (((x + y + c) % 4294967296 : Nat) : Int)) (.convert rfl (cv_40_23 _)) (by rw [wrap_u32_mod]; congr 1)) (za rfl (zn (zs (zr (zm rfl (zp (.binOp rfl rfl (fun _ => run_shr _ _ _ _ 32 (by decide))) (zp (Pure1.cast (v' := .int .u32 (((x + y + c) / 4294967296 : Nat) : Int)) (.convert rfl (cv_40_23 _)) (by rw [wrap_u32_mod]; congr 1; omega)) (za rfl (zn (zt ?_))))))))))))))))))))))))))))))); clear h; intro a w h
  refine retV h (results2 h rfl (.tmp rfl) (.tmp rfl)) ?_
  rfl

theorem C_Sub32 (x y c : Nat) (hx : x < 4294967296) (hy : y < 4294967296) (hc : c ≤ 1) :
    CtrV Tryz.prog 118 [.int .u32 (x : Int), .int .u32 (y : Int), .int .u32 (c : Int)] (.tuple #[.int .u32 (((x + 8589934592 - y - c) % 4294967296 : Nat) : Int), .int .u32 ((if x < y + c then 1 else 0 : Nat) : Int)]) := by
  refine fn_intro Tryz.func118 rfl Tryz.ntmps118 nb ?_
  intro S w0 a hS h
  refine gC h (zs (zr (za rfl (za rfl (zn (zs (zr (zm rfl (zm rfl (zp (.binOp rfl rfl (fun _ => run_sub _ _ _ _ _)) (zm rfl (zp (Pure1.cast (v' := .int .u32 (((x + 8589934592 - y - c) % 4294967296 : Nat) : Int)) (.binOp rfl rfl (fun _ => run_sub _ _ _ _ _)) (by rw [wrap_u32_mod, wrap_u32_mod]; congr 1; omega)) (za rfl (zn (zs (zr (zm rfl (zp (.unOp rfl (fun _ => run_not32 _ hx)) (zm rfl (zp (.binOp rfl rfl (fun _ => run_and rfl _ _ _ _ _ (by show _ < 4294967296; omega) hy)) (zm rfl (zm rfl (zp (.binOp rfl rfl (fun _ => run_xor rfl _ _ _ _ _ hx hy)) (zp (.unOp rfl (fun _ => run_not32 _ (Nat.xor_lt_two_pow (n := 32) hx hy))) (zm rfl (zp (.binOp rfl rfl (fun _ => run_and rfl _ _ _ _ _ (by show _ < 4294967296; omega) (by show _ < 4294967296; omega))) (zp (.binOp rfl rfl (fun _ => run_or rfl _ _ _ _ _ (Nat.lt_of_le_of_lt Nat.and_le_right hy) (Nat.lt_of_le_of_lt Nat.and_le_right (by show _ < 4294967296; omega)))) (zp (Pure1.cast (v' := .int .u32 ((if x < y + c then 1 else 0 : Nat) : Int)) (.binOp rfl rfl (fun _ => run_shr _ _ _ _ 31 (by decide))) (by rw [sub_borrow x y c hx hy hc])) (za rfl (zn (zt ?_))))))))))))))))))))))))))))))); clear h; intro a w h
  refine retV h (results2 h rfl (.tmp rfl) (.tmp rfl)) ?_
  rfl
end Go.Proofs.YtmajjidkkpkhcaaGreat
