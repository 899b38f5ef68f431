/- Written by a program of ours (gen.py) out of short specifications. By an AI agent. -/
import Derived.Test.YtmajjidkkpkhcaaGreatNats4
import Derived.Test.YtmajjidkkpkhcaaGreatFxZ
set_option linter.unusedVariables false
set_option linter.unusedSimpArgs false
set_option maxRecDepth 4000
namespace Go.Proofs.YtmajjidkkpkhcaaGreat
open Go Go.Proofs Go.Fx
attribute [local irreducible] Oper.wp Code.wp wpList Fx.Head wpOp
theorem bs_114_4_0_1_2_3 (x0 : Int) (x1 : Int) (x2 : Int) (x3 : Int) (w : World) : (Instr.buildSlice 114 4 [(0, .int .u32 x0), (1, .int .u32 x1), (2, .int .u32 x2), (3, .int .u32 x3)].toArray).run Tryz.prog w = .ok (.slice (some ⟨w.heap.size, 0, none⟩) 4 4) (w.alloc (.cells #[.int .u32 x0, .int .u32 x1, .int .u32 x2, .int .u32 x3] 23 (0, 0))) := by
  simp [go_sem]
theorem C_Sub (n m : Nat) (hn : (wds n).length ≤ 1000000000000) (hm : (wds m).length ≤ 1000000000000) : CtrV Tryz.prog 73 [encN n, encN m] (.tuple #[encN (n - m), .bool (decide (m ≤ n))]) := by
  refine fn_intro Tryz.func73 rfl Tryz.ntmps73 nb ?_
  intro S w0 a hS h
  refine gC h (zs (zr (zx rfl fun b2 => zx rfl fun b3 => zz Tryz.zeroValue42 fun b4 => za rfl (zn (zs (zs (zr (zd rfl mr Tryz.isAgg42 Tryz.sizeOf42 (rd_2_0_2 _ _) ?_)))))))); clear h; intro a w h
  refine gL h (zd rfl mr Tryz.isAgg42 Tryz.sizeOf42 (rd_2_0_2 _ _) ?_); clear h; intro a w h
  refine gL h (zv [_, _] rfl Tryz.call115 (C_Cmp n m (by omega) (by omega)) (zp (.lss rfl rfl) (zn ?_))); clear h; intro a w h
  change Code.wp _ _ _ _ _
  refine cond_split h rfl (fun hc14 => ?_) (fun hc14 => ?_)
  · skip
    have hlt : n < m := by rw [cmpI_neg] at hc14; simpa using hc14
    refine gC h (zs (zr (zp (.build [] rfl (bd_42_z)) (zt' rfl rfl (st_2_0_2 _ _ _ _) uu Tryz.sizeOf42 rfl nb rfl ?_)))); clear h; intro a w h
    refine gL h (za rfl (zn (zt ?_))); clear h; intro a w h
    refine retV h (results2 h rfl (.cell rfl mr Tryz.isAgg42 Tryz.sizeOf42 (rd_2_0_2 _ _)) (.tmp rfl)) ?_
    rw [show n - m = 0 by omega, show decide (m ≤ n) = false from decide_eq_false (by omega)]; rfl
  · skip
    have hle : m ≤ n := by rw [cmpI_neg] at hc14; simpa using hc14
    refine gC h (zk (zs (zs (zr (zp (.fieldAddr rfl (fa_42_1 _ _)) (zd rfl mr Tryz.isAgg9 Tryz.sizeOf9 (rs_2_1 _ _) ?_)))))); clear h; intro a w h
    refine gL h (zp (.binOp rfl rfl (fun _ => run_seql _ _ _ _ _)) (zn ?_)); clear h; intro a w h
    change Code.wp _ _ _ _ _
    refine cond_split h rfl (fun hc18 => ?_) (fun hc18 => ?_)
    · skip
      have ha : n < 18446744073709551616 := bigN_empty.1 (by simpa using hc18)
      refine gC h (zs (zr (zp (.fieldAddr rfl (fa_42_0 _ _)) (zd rfl mr Tryz.isAgg40 Tryz.sizeOf40 (rs_2_0 _ _) ?_)))); clear h; intro a w h
      refine gL h (zp (.fieldAddr rfl (fa_42_0 _ _)) (zd rfl mr Tryz.isAgg40 Tryz.sizeOf40 (rs_2_0 _ _) ?_)); clear h; intro a w h
      refine gL h (zp (Pure1.cast (v' := .int .u64 ((n - m : Nat) : Int)) (.binOp rfl rfl (fun _ => run_sub _ _ _ _ _)) (by rw [lowN_small ha, lowN_small (by omega), wrap_u64 _ (by omega) (by omega)]; congr 1; omega)) (zp (.build [(_, _)] rfl (bd_42_0 _)) (zt' rfl rfl (st_2_0_2 _ _ _ _) uu Tryz.sizeOf42 rfl nb rfl ?_))); clear h; intro a w h
      refine gL h (za rfl (zn (zt ?_))); clear h; intro a w h
      refine retV h (results2 h rfl (.cell rfl mr Tryz.isAgg42 Tryz.sizeOf42 (rd_2_0_2 _ _)) (.tmp rfl)) ?_
      rw [decide_eq_true hle, encN, lowN_small (by omega : n - m < _), bigN_small (by omega)]
    · skip
      have ha : ¬ n < 18446744073709551616 := fun hn => by have := bigN_empty.2 hn; simp [this] at hc18
      refine gC h (zk (zs (yD mixed_YtmajjidkkpkhcaaGreat [0, 2, 1, 3, 4, 5] (floatsOK_none (by kernel_rfl)) (yd rfl rfl mr Tryz.isAgg42 Tryz.sizeOf42 (rd_2_0_2 _ _) ?_)))); clear h
      refine yd rfl rfl mr Tryz.isAgg42 Tryz.sizeOf42 (rd_2_0_2 _ _) ?_
      refine head_callO rfl (by kernel_rfl) (vs := [_]) rfl Tryz.call78 (C_wordsO n ha (by omega)) (by simp) (by decide) ?_; rintro v26 σ26 ⟨b26, rfl, rfl⟩
      refine yf [_] rfl rfl Tryz.call78 (C_words m (by omega)) ?_; rintro v28 Ψ28 ⟨aY, cY, rfl, hYc, rfl⟩
      refine yp rfl (.assign rfl) (yp rfl (.assign rfl) (yn (zs (zr (za rfl (zn (zs (zs (zr (zm rfl (zp (.builtin [_] rfl (len_slice_114 _ _ _)) (zm rfl (zn (zb ?_)))))))))))))); intro a w h
      refine wp_loop_inv (fun (i : Nat) a w => ∃ Z c, i ≤ Z.length ∧ Z.length = (wds n).length ∧ Wd Z ∧ c ≤ 1 ∧ valW Z + m = n + 4294967296 ^ i * (c + valW ((wds m).drop i)) ∧ St 58 S w0 [(4, .pointer (some ⟨b4, 0, none⟩)), (6, .slice (some ⟨b26, 0, none⟩) Z.length Z.length), (7, .slice aY (wds m).length cY), (8, .int .u32 (c : Int)), (30, .int .i64 (Z.length : Int)), (31, .int .i64 (i : Int))] [(b26, .cells (u32s Z).toArray 23 (0, 0)), (b4, .cells (encN 0).cells 42 (0, 0))] [Row aY (u32s (wds m))] a w) (fun i => (wds n).length - i) (0) (⟨wds n, 0, Nat.zero_le _, rfl, Wd.wds n, by omega, by simp [valW_wds], ((h.drop (List.Sublist.cons_cons _ (List.Sublist.cons_cons _ (List.nil_sublist _)))).factsSub (by simp)).sub (subL ⟨rfl, rfl, rfl, rfl, rfl, rfl, trivial⟩)⟩) ?_; clear h
      rintro i a w ⟨Z, c, hi, hZl, hZ, hc, hT, h⟩
      refine gC h (zs (zr (zp (.lss rfl rfl) (zn (zs ?_))))); clear h; intro a w h
      refine cond_split h rfl (fun hc32 => ?_) (fun hc32 => ?_)
      · skip
        have hi' : i < Z.length := by simpa using hc32
        refine gC h (zk (zs (zb (zs (zr (zm rfl (za rfl (zn (zs (zr (za rfl (zn ?_)))))))))))); clear h; intro a w h
        change Code.wp _ _ _ _ _
        refine wp_join (fun a w => St 58 S w0 [(4, .pointer (some ⟨b4, 0, none⟩)), (6, .slice (some ⟨b26, 0, none⟩) Z.length Z.length), (7, .slice aY (wds m).length cY), (8, .int .u32 (c : Int)), (9, .int .i64 (i : Int)), (10, .int .u32 ((wds m).getD i 0 : Int)), (30, .int .i64 (Z.length : Int)), (31, .int .i64 (i : Int))] [(b26, .cells (u32s Z).toArray 23 (0, 0)), (b4, .cells (encN 0).cells 42 (0, 0))] [Row aY (u32s (wds m))] a w) ?_ ?_
        · skip
          refine gC h (zs (zr (zm rfl (zm rfl (zp (.builtin [_] rfl (len_slice_114 _ _ _)) (zp (.lss rfl rfl) (zn ?_))))))); clear h; intro a w h
          change Code.wp _ _ _ _ _
          refine cond_split h rfl (fun hc37 => ?_) (fun hc37 => ?_)
          · skip
            have hlt : i < (wds m).length := by simpa using hc37
            obtain ⟨bY, bYo, bYe⟩ := h.row_addr (ad := aY) (M := u32s (wds m)) (by simp) (by simp; intro e; simp [e] at hlt)
            subst bYe
            refine gC h (zr (zm rfl (zm rfl (zp (.indexAddr rfl rfl (ix_114 _ _ _ _ _ (by omega))) (zD rfl mm (by simp; omega) Tryz.isAgg23 Tryz.sizeOf23 (read_row 0 (by omega)) (.inr rfl) ?_))))); clear h; intro a w h
            refine gL h (za rfl (zn ?_)); clear h; intro a w h
            exact h.sub sA
          · skip
            have hlt : (wds m).length ≤ i := by simpa using hc37
            refine wp_skip ?_
            rw [getD_ge hlt]
            exact h.sub sA
        · clear h
          intro a w h
          refine gC h (zr (zm rfl (zm rfl (zm rfl (zm rfl (zp (.indexAddr rfl rfl (ix_114 _ _ _ _ _ (by omega))) (zd rfl mm Tryz.isAgg23 Tryz.sizeOf23 ((read_row 0 (by rw [Nat.zero_add]; omega)).trans (by rw [Nat.zero_add])) ?_))))))); clear h; intro a w h
          refine gL h (zm rfl (zm rfl (zv [_, _, _] rfl Tryz.call118 (C_Sub32 _ _ _ (hZ.getD i) ((Wd.wds m).getD i) hc) (zm rfl (zp (.extract rfl (fun _ => rfl)) (zp (.extract rfl (fun _ => rfl)) (zp (.indexAddr rfl rfl (ix_114 _ _ _ _ _ (by omega))) (zt' rfl rfl ((set_row Z (0 + i) ((Z.getD i 0 + 8589934592 - (wds m).getD i 0 - c) % 4294967296)).trans (by rw [Nat.zero_add])) uu Tryz.sizeOf23 rfl (by simp; omega) rfl ?_)))))))); clear h; intro a w h
          refine gL h (za rfl (zn (zr (zp (.add rfl rfl) (zm rfl (zn ?_)))))); clear h; intro a w h
          refine ⟨i + 1, ⟨Z.set i ((Z.getD i 0 + 8589934592 - (wds m).getD i 0 - c) % 4294967296), (if Z.getD i 0 < (wds m).getD i 0 + c then 1 else 0), by simp; omega, by simpa using hZl, hZ.set _ _ (Nat.mod_lt _ (by decide)), by split <;> omega, sub_step hi' hT (sub_eq _ _ _ (hZ.getD i) ((Wd.wds m).getD i) hc), by rw [List.length_set]; exact h.sub sA⟩, by omega⟩
      · skip
        have hi' : i = Z.length := by simp at hc32; omega
        refine wp_exit (wp_seq (wp_region_lit ?_))
        replace h := h.shareAll hS (u32s Z) rfl
        refine gL h (zm rfl (zw [_] rfl Tryz.call77 (C_of _ _ Z hZ (Nat.le_refl _) (by omega)) (zt' rfl rfl (st_2_0_2 _ _ _ _) uu Tryz.sizeOf42 rfl nb rfl ?_))); clear h; intro a w h
        refine gL h (za rfl (zn (zt ?_))); clear h; intro a w h
        refine retV h (results2 h rfl (.cell rfl mr Tryz.isAgg42 Tryz.sizeOf42 (rd_2_0_2 _ _)) (.tmp rfl)) ?_
        rw [hi'] at hT
        have e : valW Z = n - m := sub_end (N := Z.length) (c := c) hZ rfl hle (by rw [List.drop_eq_nil_of_le] at hT; · simpa [valW] using hT
                                                                                   · refine Nat.le_of_not_lt fun hgt => ?_
                                                                                     have := wds_len_lt (n := n) (m := m) (by omega); omega)
        rw [e, decide_eq_true hle]

theorem C_Mul64 (x y : Nat) (hx : x < 18446744073709551616) (hy : y < 18446744073709551616) :
    CtrV Tryz.prog 76 [.int .u64 (x : Int), .int .u64 (y : Int)] (.tuple #[.int .u64 ((x * y / 18446744073709551616 : Nat) : Int), .int .u64 ((x * y % 18446744073709551616 : Nat) : Int)]) := by
  obtain ⟨ht, hw, hh⟩ := mul64_hi x y hx hy
  have b1 := mul32_lt (a := x / 4294967296) (b := y / 4294967296) (by omega) (by omega)
  have b2 := mul32_lt (a := x / 4294967296) (b := y % 4294967296) (by omega) (by omega)
  have b3 := mul32_lt (a := x % 4294967296) (b := y / 4294967296) (by omega) (by omega)
  have b4 := mul32_lt (a := x % 4294967296) (b := y % 4294967296) (by omega) (by omega)
  refine fn_intro Tryz.func76 rfl Tryz.ntmps76 nb ?_
  intro S w0 a hS h
  refine gC h (zs (zr (za rfl (za rfl (zn (zs (zr (zm rfl (zp (Pure1.cast (v' := .int .u64 (((x % 4294967296) : Nat) : Int)) (.binOp rfl rfl (fun _ => run_and rfl _ _ _ x 4294967295 hx (by decide))) (by rw [show (4294967295 : Nat) = 2 ^ 32 - 1 from rfl, Nat.and_two_pow_sub_one_eq_mod])) (za rfl (zn (zs (zr (zm rfl (zp (Pure1.cast (v' := .int .u64 (((x / 4294967296) : Nat) : Int)) (.binOp rfl rfl (fun _ => run_shr _ _ _ x 32 (by decide))) (by rfl)) (za rfl (zn (zs (zr (zm rfl (zp (Pure1.cast (v' := .int .u64 (((y % 4294967296) : Nat) : Int)) (.binOp rfl rfl (fun _ => run_and rfl _ _ _ y 4294967295 hy (by decide))) (by rw [show (4294967295 : Nat) = 2 ^ 32 - 1 from rfl, Nat.and_two_pow_sub_one_eq_mod])) (za rfl (zn (zs (zr (zm rfl (zp (Pure1.cast (v' := .int .u64 (((y / 4294967296) : Nat) : Int)) (.binOp rfl rfl (fun _ => run_shr _ _ _ y 32 (by decide))) (by rfl)) (za rfl (zn (zs (zr (zm rfl (zm rfl (zp (Pure1.cast (v' := .int .u64 (((x % 4294967296) * (y % 4294967296) : Nat) : Int)) (.binOp rfl rfl (fun _ => run_mul _ _ _ _ _)) (by rw [wrap_mul64 (by omega)])) (za rfl (zn (zs (zr (zm rfl (zm rfl (zp (Pure1.cast (v' := .int .u64 (((x / 4294967296) * (y % 4294967296) : Nat) : Int)) (.binOp rfl rfl (fun _ => run_mul _ _ _ _ _)) (by rw [wrap_mul64 (by omega)])) (zm rfl (zp (Pure1.cast (v' := .int .u64 (((x % 4294967296) * (y % 4294967296) / 4294967296 : Nat) : Int)) (.binOp rfl rfl (fun _ => run_shr _ _ _ _ 32 (by decide))) (by rfl)) (zp (Pure1.cast (v' := .int .u64 ((((x / 4294967296) * (y % 4294967296) + (x % 4294967296) * (y % 4294967296) / 4294967296) : Nat) : Int)) (.binOp rfl rfl (fun _ => run_add _ _ _ _ _)) (by rw [wrap_add64 ht])) (za rfl (zn (zs (zr (zm rfl (zp (Pure1.cast (v' := .int .u64 ((((x / 4294967296) * (y % 4294967296) + (x % 4294967296) * (y % 4294967296) / 4294967296) % 4294967296 : Nat) : Int)) (.binOp rfl rfl (fun _ => run_and rfl _ _ _ _ 4294967295 ht (by decide))) (by rw [show (4294967295 : Nat) = 2 ^ 32 - 1 from rfl, Nat.and_two_pow_sub_one_eq_mod])) (za rfl (zn (zs (zr (zm rfl (zp (Pure1.cast (v' := .int .u64 ((((x / 4294967296) * (y % 4294967296) + (x % 4294967296) * (y % 4294967296) / 4294967296) / 4294967296 : Nat) : Int)) (.binOp rfl rfl (fun _ => run_shr _ _ _ _ 32 (by decide))) (by rfl)) (za rfl (zn (zs (zr (zm rfl (zm rfl (zm rfl (zp (Pure1.cast (v' := .int .u64 (((x % 4294967296) * (y / 4294967296) : Nat) : Int)) (.binOp rfl rfl (fun _ => run_mul _ _ _ _ _)) (by rw [wrap_mul64 (by omega)])) (zp (Pure1.cast (v' := .int .u64 (((((x / 4294967296) * (y % 4294967296) + (x % 4294967296) * (y % 4294967296) / 4294967296) % 4294967296 + (x % 4294967296) * (y / 4294967296)) : Nat) : Int)) (.binOp rfl rfl (fun _ => run_add _ _ _ _ _)) (by rw [wrap_add64 hw])) (za rfl (zn (zs (zr (zm rfl (zm rfl (zp (Pure1.cast (v' := .int .u64 (((x / 4294967296) * (y / 4294967296) : Nat) : Int)) (.binOp rfl rfl (fun _ => run_mul _ _ _ _ _)) (by rw [wrap_mul64 (by omega)])) (zm rfl (zp (Pure1.cast (v' := .int .u64 (((x / 4294967296) * (y / 4294967296) + ((x / 4294967296) * (y % 4294967296) + (x % 4294967296) * (y % 4294967296) / 4294967296) / 4294967296 : Nat) : Int)) (.binOp rfl rfl (fun _ => run_add _ _ _ _ _)) (by rw [wrap_add64 (by omega)])) (zm rfl (zp (Pure1.cast (v' := .int .u64 (((((x / 4294967296) * (y % 4294967296) + (x % 4294967296) * (y % 4294967296) / 4294967296) % 4294967296 + (x % 4294967296) * (y / 4294967296)) / 4294967296 : Nat) : Int)) (.binOp rfl rfl (fun _ => run_shr _ _ _ _ 32 (by decide))) (by rfl)) (zp (Pure1.cast (v' := .int .u64 ((x * y / 18446744073709551616 : Nat) : Int)) (.binOp rfl rfl (fun _ => run_add _ _ _ _ _)) (by rw [wrap_add64 (by rw [hh]; exact Nat.div_lt_of_lt_mul (Nat.mul_lt_mul'' hx hy)), hh])) (za rfl (zn (zs (zr (zm rfl (zm rfl (zp (Pure1.cast (v' := .int .u64 ((x * y % 18446744073709551616 : Nat) : Int)) (.binOp rfl rfl (fun _ => run_mul _ _ _ _ _)) (by rw [← Int.natCast_mul, wrap_u64_mod]; congr 1)) (za rfl (zn (zt ?_))))))))))))))))))))))))))))))))))))))))))))))))))))))))))))))))))))))))))))))))))))))); clear h; intro a w h
  refine retV h (results2 h rfl (.tmp rfl) (.tmp rfl)) ?_
  rfl

theorem C_Mul (n m : Nat) (hn : (wds n).length ≤ 500000000000) (hm : (wds m).length ≤ 500000000000) : CtrV Tryz.prog 42 [encN n, encN m] (encN (n * m)) := by
  refine fn_intro Tryz.func42 rfl Tryz.ntmps42 nb ?_
  intro S w0 a hS h
  refine gC h (zs (zr (zx rfl fun b2 => zx rfl fun b3 => zz Tryz.zeroValue42 fun b4 => zn ?_))); clear h; intro a w h
  change Code.wp _ _ _ _ _
  refine wp_join (fun a w => St 103 S w0 [(2, .pointer (some ⟨b2, 0, none⟩)), (3, .pointer (some ⟨b3, 0, none⟩)), (4, .pointer (some ⟨b4, 0, none⟩))] [(b4, .cells (encN 0).cells 42 (0, 0)), (b3, .cells (encN m).cells 42 (0, 0)), (b2, .cells (encN n).cells 42 (0, 0))] [] a w) ?_ ?_
  · skip
    refine gC h (zs (zr (zp (.fieldAddr rfl (fa_42_1 _ _)) (zd rfl mr Tryz.isAgg9 Tryz.sizeOf9 (rs_2_1 _ _) ?_)))); clear h; intro a w h
    refine gL h (zp (.binOp rfl rfl (fun _ => run_seql _ _ _ _ _)) (zm rfl ?_)); clear h; intro a w h
    refine by_bool h (fun hc18 h => ?_) (fun hc18 h => ?_)
    · skip
      have ha : n < 18446744073709551616 := bigN_empty.1 (by simpa using hc18)
      refine gL h (zq 18 rfl rfl (.fieldAddr rfl (fa_42_1 _ _)) ?_); clear h; intro a w h
      refine wpl_guard 18 h rfl rfl (op_load h rfl mr Tryz.isAgg9 Tryz.sizeOf9 (rs_2_1 _ _) (by decide) ?_); clear h; intro a h
      refine gL h (zq 18 rfl rfl (.binOp rfl rfl (fun _ => run_seql _ _ _ _ _)) ?_); clear h; intro a w h
      refine by_bool h (fun hc21 h => ?_) (fun hc21 h => ?_)
      · skip
        have hb : m < 18446744073709551616 := bigN_empty.1 (by simpa using hc21)
        refine gL h (zp (.pickT rfl rfl) (zn ?_)); clear h; intro a w h
        change Code.wp _ _ _ _ _
        refine cond_true h rfl ?_
        refine gC h (zs (zr (zp (.fieldAddr rfl (fa_42_0 _ _)) (zd rfl mr Tryz.isAgg40 Tryz.sizeOf40 (rs_2_0 _ _) ?_)))); clear h; intro a w h
        rw [lowN_small ha] at h
        refine gL h (zp (.fieldAddr rfl (fa_42_0 _ _)) (zd rfl mr Tryz.isAgg40 Tryz.sizeOf40 (rs_2_0 _ _) ?_)); clear h; intro a w h
        rw [lowN_small hb] at h
        refine gL h (zv [_, _] rfl Tryz.call76 (C_Mul64 n m ha hb) (zm rfl (zp (.extract rfl (fun _ => rfl)) (zp (.extract rfl (fun _ => rfl)) (za rfl (za rfl (zn (zs (zr (zm rfl (zp (Pure1.cast (v' := .int .u32 ((n * m % 18446744073709551616 % 4294967296 : Nat) : Int)) (.convert rfl (cv_40_23 _)) (by rw [wrap_u32_mod]; congr 1)) (zm rfl (zp (.binOp rfl rfl (fun _ => run_shr _ _ _ _ 32 (by decide))) (zp (Pure1.cast (v' := .int .u32 ((n * m % 18446744073709551616 / 4294967296 : Nat) : Int)) (.convert rfl (cv_40_23 _)) (by rw [wrap_u32_mod]; congr 1; omega)) (zm rfl (zp (Pure1.cast (v' := .int .u32 ((n * m / 18446744073709551616 % 4294967296 : Nat) : Int)) (.convert rfl (cv_40_23 _)) (by rw [wrap_u32_mod]; congr 1)) (zm rfl (zp (.binOp rfl rfl (fun _ => run_shr _ _ _ _ 32 (by decide))) (zp (Pure1.cast (v' := .int .u32 ((n * m / 18446744073709551616 / 4294967296 : Nat) : Int)) (.convert rfl (cv_40_23 _)) (by have hh := Nat.div_lt_of_lt_mul (Nat.mul_lt_mul'' ha hb); rw [wrap_u32_mod]; congr 1; omega)) (zB [(_, _), (_, _), (_, _), (_, _)] rfl (bs_114_4_0_1_2_3 _ _ _ _) fun b41 => ?_)))))))))))))))))))); clear h; intro a w h
        replace h := h.shareAll hS (u32s [n * m % 18446744073709551616 % 4294967296, n * m % 18446744073709551616 / 4294967296, n * m / 18446744073709551616 % 4294967296, n * m / 18446744073709551616 / 4294967296]) rfl
        refine gL h (zw [_] rfl Tryz.call77 (C_of _ _ [n * m % 18446744073709551616 % 4294967296, n * m % 18446744073709551616 / 4294967296, n * m / 18446744073709551616 % 4294967296, n * m / 18446744073709551616 / 4294967296] (by intro x hx; have hh := Nat.div_lt_of_lt_mul (Nat.mul_lt_mul'' ha hb); simp at hx; omega) (by simp) (by simp)) (zt' rfl rfl (st_2_0_2 _ _ _ _) uu Tryz.sizeOf42 rfl nb rfl ?_)); clear h; intro a w h
        refine wpList_nil (wp_ret ?_)
        refine retV h (results1 h rfl (.cell rfl mr Tryz.isAgg42 Tryz.sizeOf42 (rd_2_0_2 _ _))) ?_
        have e : valW [n * m % 18446744073709551616 % 4294967296, n * m % 18446744073709551616 / 4294967296, n * m / 18446744073709551616 % 4294967296, n * m / 18446744073709551616 / 4294967296] = n * m := by simp only [valW]; omega
        rw [e]
      · skip
        have hb : ¬ m < 18446744073709551616 := fun hn => by have := bigN_empty.2 hn; simp [this] at hc21
        refine gL h (zp (.pickT rfl rfl) (zn ?_)); clear h; intro a w h
        change Code.wp _ _ _ _ _
        refine cond_false h rfl ?_
        refine wp_skip ?_
        exact h.sub sA
    · skip
      have ha : ¬ n < 18446744073709551616 := fun hn => by have := bigN_empty.2 hn; simp [this] at hc18
      refine gL h (zo 18 rfl rfl rfl (zo 18 rfl rfl rfl (zo 18 rfl rfl rfl (zp (.pickF rfl rfl) (zn ?_))))); clear h; intro a w h
      change Code.wp _ _ _ _ _
      refine cond_false h rfl ?_
      refine wp_skip ?_
      exact h.sub sA
  · clear h
    intro a w h
    refine gC h (zs (yD mixed_YtmajjidkkpkhcaaGreat [0, 2, 1, 3, 4, 5] (floatsOK_none (by kernel_rfl)) (yd rfl rfl mr Tryz.isAgg42 Tryz.sizeOf42 (rd_2_0_2 _ _) ?_))); clear h
    refine yd rfl rfl mr Tryz.isAgg42 Tryz.sizeOf42 (rd_2_0_2 _ _) ?_
    refine yf [_] rfl rfl Tryz.call78 (C_words n (by omega)) ?_; rintro v44 Ψ44 ⟨aX, cX, rfl, hcX, rfl⟩
    refine yf [_] rfl rfl Tryz.call78 (C_words m (by omega)) ?_; rintro v46 Ψ46 ⟨aY, cY, rfl, hcY, rfl⟩
    refine yp rfl (.assign rfl) (yp rfl (.assign rfl) (yn (zs (zr (zm rfl (zp (.builtin [_] rfl (len_slice_114 _ _ _)) (zm rfl (zp (.builtin [_] rfl (len_slice_114 _ _ _)) (zp (Pure1.cast (v' := .int .i64 (((wds n).length + (wds m).length : Nat) : Int)) (.add rfl rfl) (by show Value.int _ _ = Value.int _ _; congr 1)) ?_))))))))); intro a w h
    refine wpl_plain (op_makeSlice h rfl rfl Tryz.runUnderlying114 Tryz.typeInfo23 Tryz.sizeOf23 Tryz.zeroValue23 rfl (by decide) (by exact Nat.le_refl _) (by show 4 * _ ≤ _; omega) (by omega) (by decide) ?_); clear h; intro b52 a w h
    rw [show (Value.int .u32 0).cells.toList = [Value.int .u32 0] from rfl, reps_one, show List.replicate ((wds n).length + (wds m).length) (Value.int .u32 0) = u32s (List.replicate ((wds n).length + (wds m).length) 0) from by simp] at h
    refine gL h (za rfl (zn (zs (zs (zr (zm rfl (zp (.builtin [_] rfl (len_slice_114 _ _ _)) (zm rfl (zn (zb ?_)))))))))); clear h; intro a w h
    refine wp_loop_inv (fun (i : Nat) a w => i ≤ (wds n).length ∧ ∃ Z, Z.length = (wds n).length + (wds m).length ∧ Wd Z ∧ valW Z = valW ((wds n).take i) * valW (wds m) ∧ St 103 S w0 [(4, .pointer (some ⟨b4, 0, none⟩)), (8, .slice aY (wds m).length cY), (9, .slice (some ⟨b52, 0, none⟩) Z.length Z.length), (53, .slice aX (wds n).length cX), (54, .int .i64 ((wds n).length : Int)), (55, .int .i64 (i : Int))] [(b52, .cells (u32s Z).toArray 23 (0, 0)), (b4, .cells (encN 0).cells 42 (0, 0))] [Row aX (u32s (wds n)), Row aY (u32s (wds m))] a w) (fun i => (wds n).length - i) (0) (⟨Nat.zero_le _, List.replicate ((wds n).length + (wds m).length) 0, by simp, Wd.zeros _, by rw [valW_zeros _ (fun x hx => List.eq_of_mem_replicate hx)]; simp [valW], by rw [List.length_replicate]; exact ((h.drop (List.Sublist.cons_cons _ (List.Sublist.cons_cons _ (List.nil_sublist _)))).factsSub (by simp)).sub (subL ⟨rfl, rfl, rfl, rfl, rfl, rfl, trivial⟩)⟩) ?_; clear h
    rintro i a w ⟨hi, Z, hZl, hZ, hV, h⟩
    refine gC h (zs (zr (zp (.lss rfl rfl) (zn (zs ?_))))); clear h; intro a w h
    refine cond_split h rfl (fun hc56 => ?_) (fun hc56 => ?_)
    · skip
      have hi' : i < (wds n).length := by simpa using hc56
      have hlt := hi'
      obtain ⟨bX, bXo, bXe⟩ := h.row_addr (ad := aX) (M := u32s (wds n)) (by simp) (by simp; intro e; simp [e] at hlt)
      subst bXe
      refine gC h (zk (zs (zb (zs (zr (zm rfl (zp (.indexAddr rfl rfl (ix_114 _ _ _ _ _ (by omega))) (zD rfl mm (by simp; omega) Tryz.isAgg23 Tryz.sizeOf23 (read_row 0 (by omega)) (.inr rfl) ?_)))))))); clear h; intro a w h
      refine gL h (za rfl (za rfl (zn (zs (zr (za rfl (zn (zs (zs (zr (zm rfl (zp (.builtin [_] rfl (len_slice_114 _ _ _)) (zm rfl (zn (zb ?_))))))))))))))); clear h; intro a w h
      refine wp_loop_inv (fun (k : Nat) a w => k ≤ (wds m).length ∧ ∃ Z c, Z.length = (wds n).length + (wds m).length ∧ Wd Z ∧ c < 4294967296 ∧ Z.getD (i + (wds m).length) 0 = 0 ∧ valW Z + 4294967296 ^ (i + k) * c + 4294967296 ^ (i + k) * ((wds n).getD i 0 * valW ((wds m).drop k)) = valW ((wds n).take i) * valW (wds m) + 4294967296 ^ i * ((wds n).getD i 0 * valW (wds m)) ∧ St 103 S w0 [(4, .pointer (some ⟨b4, 0, none⟩)), (8, .slice aY (wds m).length cY), (9, .slice (some ⟨b52, 0, none⟩) Z.length Z.length), (53, .slice (some ⟨bX, bXo, none⟩) (wds n).length cX), (54, .int .i64 ((wds n).length : Int)), (55, .int .i64 (i : Int)), (10, .int .i64 (i : Int)), (11, .int .u32 ((wds n).getD i 0 : Int)), (12, .int .u64 (c : Int)), (60, .slice aY (wds m).length cY), (61, .int .i64 ((wds m).length : Int)), (62, .int .i64 (k : Int))] [(b52, .cells (u32s Z).toArray 23 (0, 0)), (b4, .cells (encN 0).cells 42 (0, 0))] [Row (some ⟨bX, bXo, none⟩) (u32s (wds n)), Row aY (u32s (wds m))] a w) (fun k => (wds m).length - k) (0) (⟨Nat.zero_le _, Z, 0, hZl, hZ, by decide, mul_zero_above (Wd.wds n) (Wd.wds m) hV (Nat.le_refl _), by simp [hV], h.sub (subL ⟨rfl, rfl, rfl, rfl, rfl, rfl, rfl, rfl, rfl, rfl, rfl, rfl, trivial⟩)⟩) ?_; clear h
      clear hZ hV hZl
      rintro k a w ⟨hk, Z, c, hZl, hZ, hc, h0, hT, h⟩
      refine gC h (zs (zr (zp (.lss rfl rfl) (zn (zs ?_))))); clear h; intro a w h
      refine cond_split h rfl (fun hc63 => ?_) (fun hc63 => ?_)
      · skip
        have hk' : k < (wds m).length := by simpa using hc63
        have hlt := hk'
        obtain ⟨bY, bYo, bYe⟩ := h.row_addr (ad := aY) (M := u32s (wds m)) (by simp) (by simp; intro e; simp [e] at hlt)
        subst bYe
        have hb := word_mul_lt ((Wd.wds n).getD i) ((Wd.wds m).getD k) hc (hZ.getD (i + k))
        have hxi := (Wd.wds n).getD i
        have hyk := (Wd.wds m).getD k
        have hzk := hZ.getD (i + k)
        refine gC h (zk (zs (zb (zs (zr (zm rfl (zp (.indexAddr rfl rfl (ix_114 _ _ _ _ _ (by omega))) (zD rfl mm (by simp; omega) Tryz.isAgg23 Tryz.sizeOf23 (read_row 0 (by omega)) (.inr rfl) ?_)))))))); clear h; intro a w h
        refine gL h (za rfl (za rfl (zn (zs (zr (zm rfl (zm rfl (zp (.convert rfl (cv_23_40b _ (wrap_u64 _ (by omega) (by omega)))) (zm rfl (zp (.convert rfl (cv_23_40b _ (wrap_u64 _ (by omega) (by omega)))) (zp (Pure1.cast (v' := .int .u64 (((wds n).getD i 0 * (wds m).getD k 0 : Nat) : Int)) (.binOp rfl rfl (fun _ => run_mul _ _ _ _ _)) (by rw [wrap_mul64 (by omega)])) (zm rfl (zm rfl (zm rfl (zp (Pure1.cast (v' := .int .i64 ((i + k : Nat) : Int)) (.add rfl rfl) (by show Value.int _ _ = Value.int _ _; congr 1)) (zp (.indexAddr rfl rfl (ix_114 _ _ _ _ _ (by omega))) (zd rfl mm Tryz.isAgg23 Tryz.sizeOf23 ((read_row 0 (by rw [Nat.zero_add]; omega)).trans (by rw [Nat.zero_add])) ?_))))))))))))))))); clear h; intro a w h
        refine gL h (zp (.convert rfl (cv_23_40b _ (wrap_u64 _ (by omega) (by omega)))) (zp (Pure1.cast (v' := .int .u64 (((wds n).getD i 0 * (wds m).getD k 0 + Z.getD (i + k) 0 : Nat) : Int)) (.binOp rfl rfl (fun _ => run_add _ _ _ _ _)) (by rw [wrap_add64 (by omega)])) (zp (Pure1.cast (v' := .int .u64 (((c + ((wds n).getD i 0 * (wds m).getD k 0 + Z.getD (i + k) 0)) : Nat) : Int)) (.binOp rfl rfl (fun _ => run_add _ _ _ _ _)) (by rw [wrap_add64 hb])) (za rfl (zn (zs (zr (zm rfl (zm rfl (zm rfl (zp (Pure1.cast (v' := .int .i64 ((i + k : Nat) : Int)) (.add rfl rfl) (by show Value.int _ _ = Value.int _ _; congr 1)) (zm rfl (zp (Pure1.cast (v' := .int .u32 (((c + ((wds n).getD i 0 * (wds m).getD k 0 + Z.getD (i + k) 0)) % 4294967296 : Nat) : Int)) (.convert rfl (cv_40_23 _)) (by rw [wrap_u32_mod]; congr 1)) (zp (.indexAddr rfl rfl (ix_114 _ _ _ _ _ (by omega))) (zt' rfl rfl ((set_row Z (0 + (i + k)) ((c + ((wds n).getD i 0 * (wds m).getD k 0 + Z.getD (i + k) 0)) % 4294967296)).trans (by rw [Nat.zero_add])) uu Tryz.sizeOf23 rfl (by simp; omega) rfl ?_))))))))))))))); clear h; intro a w h
        refine gL h (zn (zr (zm rfl (zp (Pure1.cast (v' := .int .u64 (((c + ((wds n).getD i 0 * (wds m).getD k 0 + Z.getD (i + k) 0)) / 4294967296 : Nat) : Int)) (.binOp rfl rfl (fun _ => run_shr _ _ _ _ 32 (by decide))) (by rfl)) (za rfl (zn (zr (zp (.add rfl rfl) (zm rfl (zn ?_)))))))))); clear h; intro a w h
        exact ⟨k + 1, ⟨by omega, Z.set (i + k) ((c + ((wds n).getD i 0 * (wds m).getD k 0 + Z.getD (i + k) 0)) % 4294967296), _, by simpa using hZl, hZ.set _ _ (Nat.mod_lt _ (by decide)), Nat.div_lt_of_lt_mul hb, by rw [getD_setw (by omega)]; exact h0, mul_step (by omega) hT, by rw [List.length_set]; exact h.sub (subL ⟨rfl, rfl, rfl, rfl, rfl, rfl, rfl, rfl, rfl, rfl, rfl, rfl, trivial⟩)⟩, by omega⟩
      · skip
        have hk' : k = (wds m).length := by simp at hc63; omega
        subst hk'
        refine gC h (ze (zr (zm rfl (zm rfl (zm rfl (zp (.builtin [_] rfl (len_slice_114 _ _ _)) (zp (Pure1.cast (v' := .int .i64 ((i + (wds m).length : Nat) : Int)) (.add rfl rfl) (by show Value.int _ _ = Value.int _ _; congr 1)) (zm rfl (zp (Pure1.cast (v' := .int .u32 (c : Int)) (.convert rfl (cv_40_23 _)) (by rw [wrap_u32 _ (by omega) (by omega)])) (zp (.indexAddr rfl rfl (ix_114 _ _ _ _ _ (by omega))) (zt' rfl rfl ((set_row Z (0 + (i + (wds m).length)) c).trans (by rw [Nat.zero_add])) uu Tryz.sizeOf23 rfl (by simp; omega) rfl ?_))))))))))); clear h; intro a w h
        refine gL h (zn (zr (zp (.add rfl rfl) (zm rfl (zn ?_))))); clear h; intro a w h
        exact ⟨i + 1, ⟨by omega, Z.set (i + (wds m).length) c, by simpa using hZl, hZ.set _ _ hc, mul_row_end hi' (by omega) h0 hT, by rw [List.length_set]; exact h.sub sA⟩, by omega⟩
    · skip
      have hi' : i = (wds n).length := by simp at hc56; omega
      refine wp_exit (wp_seq (wp_region_lit ?_))
      replace h := h.shareAll hS (u32s Z) rfl
      refine gL h (zm rfl (zw [_] rfl Tryz.call77 (C_of _ _ Z hZ (Nat.le_refl _) (by omega)) (zt' rfl rfl (st_2_0_2 _ _ _ _) uu Tryz.sizeOf42 rfl nb rfl ?_))); clear h; intro a w h
      refine wpList_nil (wp_ret ?_)
      refine retV h (results1 h rfl (.cell rfl mr Tryz.isAgg42 Tryz.sizeOf42 (rd_2_0_2 _ _))) ?_
      rw [hi', List.take_length, valW_wds, valW_wds] at hV
      rw [hV]
end Go.Proofs.YtmajjidkkpkhcaaGreat
