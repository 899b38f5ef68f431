/- Written by a program of ours (gen.py) out of short specifications. By an AI agent. -/
import Derived.Test.YtmajjidkkpkhcaaGreatNats8
import Derived.Test.YtmajjidkkpkhcaaGreatFxZ
set_option linter.unusedVariables false
set_option linter.unusedSimpArgs false
set_option maxRecDepth 4000
namespace Go.Proofs.YtmajjidkkpkhcaaGreat
open Go Go.Proofs Go.Fx
attribute [local irreducible] Oper.wp Code.wp wpList Fx.Head wpOp

theorem wds_lastD {m : Nat} (h : m ≠ 0) : (wds m).getD ((wds m).length - 1) 0 ≠ 0 := by
  have hne : wds m ≠ [] := fun e => h (by rw [← valW_wds m, e]; rfl)
  have := wds_last m hne
  rw [List.getLast_eq_getElem] at this
  have hl : (wds m).length - 1 < (wds m).length := by have := List.length_pos_iff.2 hne; omega
  simpa [List.getD, hl] using this
theorem wds_pos_len {m : Nat} (h : m ≠ 0) : 0 < (wds m).length := List.length_pos_iff.2 fun e => h (by rw [← valW_wds m, e]; rfl)
theorem wds_len_mono {n m : Nat} (h : n ≤ m) : (wds n).length ≤ (wds m).length := Nat.le_of_not_lt fun hl => by have := wds_len_lt hl; omega
theorem wds_one {m : Nat} (h : (wds m).length = 1) : (wds m).getD 0 0 = m := by
  have e := valW_wds m
  match hw : wds m, h with
  | [x], _ => rw [hw] at e; simpa [valW] using e

theorem C_Div (n m : Nat) (hn : (wds n).length ≤ 500000000000) (hm : (wds m).length ≤ 500000000000) (h0 : m ≠ 0) : CtrV Tryz.prog 72 [encN n, encN m] (.tuple #[encN (n / m), encN (n % m), .bool true]) := by
  refine fn_intro Tryz.func72 rfl Tryz.ntmps72 nb ?_
  intro S w0 a hS h
  refine gC h (zs (zr (zx rfl fun b2 => zx rfl fun b3 => zz Tryz.zeroValue42 fun b4 => zz Tryz.zeroValue42 fun b5 => za rfl (zn (zs (zb (zs (zr (zd rfl mr Tryz.isAgg42 Tryz.sizeOf42 (rd_2_0_2 _ _) ?_))))))))); clear h; intro a w h
  refine gL h (zv [_] rfl Tryz.call114 (C_zero m) (za rfl (zn ?_))); clear h; intro a w h
  change Code.wp _ _ _ _ _
  refine cond_split h rfl (fun hc12 => (by exfalso; exact h0 (of_decide_eq_true hc12))) (fun hc12 => ?_)
  refine gC h (zs (zr (zd rfl mr Tryz.isAgg42 Tryz.sizeOf42 (rd_2_0_2 _ _) ?_))); clear h; intro a w h
  refine gL h (zd rfl mr Tryz.isAgg42 Tryz.sizeOf42 (rd_2_0_2 _ _) ?_); clear h; intro a w h
  refine gL h (zv [_, _] rfl Tryz.call115 (C_Cmp n m (by omega) (by omega)) (zp (.lss rfl rfl) (za rfl (zn ?_)))); clear h; intro a w h
  change Code.wp _ _ _ _ _
  refine cond_split h rfl (fun hc17 => ?_) (fun hc17 => ?_)
  · skip
    have hlt : n < m := by rw [cmpI_neg] at hc17; exact of_decide_eq_true hc17
    refine gC h (zs (yD mixed_YtmajjidkkpkhcaaGreat [0, 1, 2, 3, 4] (floatsOK_none (by kernel_rfl)) (yp rfl (.build [] rfl (bd_42_z)) ?_))); clear h
    refine head_loadLate [4] rfl (by kernel_rfl) rfl mr Tryz.isAgg42 Tryz.sizeOf42 (rd_2_0_2 _ _) (fun a w σx hst => by intro t ht; simp only [List.mem_cons, List.not_mem_nil, or_false] at ht; rcases ht with rfl <;> exact ⟨_, rfl, by have h1 := (List.pairwise_append.1 hst.nd).2.1; simp at h1; dsimp only; omega⟩) (by decide) ?_
    refine yt rfl rfl rfl (st_2_0_2 _ _ _ _) uu Tryz.sizeOf42 rfl nb rfl ?_
    refine yt rfl rfl rfl (st_2_0_2 _ _ _ _) uu Tryz.sizeOf42 rfl nb rfl ?_
    refine yp rfl (.assign rfl) (yn (zt ?_)); intro a w h
    refine retV h (results3 h rfl (.cell rfl mr Tryz.isAgg42 Tryz.sizeOf42 (rd_2_0_2 _ _)) (.cell rfl mr Tryz.isAgg42 Tryz.sizeOf42 (rd_2_0_2 _ _)) (.tmp rfl)) ?_
    rw [Nat.div_eq_of_lt hlt, Nat.mod_eq_of_lt hlt]; rfl
  · skip
    have hle : m ≤ n := by rw [cmpI_neg] at hc17; exact Nat.le_of_not_lt (of_decide_eq_false hc17)
    refine gC h (zs (zr (zp (.fieldAddr rfl (fa_42_1 _ _)) (zd rfl mr Tryz.isAgg9 Tryz.sizeOf9 (rs_2_1 _ _) ?_)))); clear h; intro a w h
    refine gL h (zp (.binOp rfl rfl (fun _ => run_seql _ _ _ _ _)) (za rfl (zn ?_))); clear h; intro a w h
    change Code.wp _ _ _ _ _
    refine cond_split h rfl (fun hc24 => ?_) (fun hc24 => ?_)
    · skip
      have ha : n < 18446744073709551616 := bigN_empty.1 (by simpa using hc24)
      have hb : m < 18446744073709551616 := by omega
      refine gC h (zs (yD mixed_YtmajjidkkpkhcaaGreat [0, 1, 2, 3, 4, 5, 6, 7, 8, 9, 10, 11, 12, 13, 14] (floatsOK_none (by kernel_rfl)) (yp rfl (.fieldAddr rfl (fa_42_0 _ _)) (yd rfl rfl mr Tryz.isAgg40 Tryz.sizeOf40 (rs_2_0 _ _) ?_)))); clear h
      refine yp rfl (.fieldAddr rfl (fa_42_0 _ _)) (yd rfl rfl mr Tryz.isAgg40 Tryz.sizeOf40 (rs_2_0 _ _) ?_)
      refine yp rfl (Pure1.cast (v' := .int .u64 ((n / m : Nat) : Int)) (.binOp rfl rfl (fun _ => run_quo _ _ _ _ _ (by rw [lowN_small hb]; omega))) (by rw [lowN_small ha, lowN_small hb, tdiv_nat, wrap_u64n (Nat.lt_of_le_of_lt (Nat.div_le_self _ _) ha)])) (yp rfl (.build [(_, _)] rfl (bd_42_0 _)) (yp rfl (.fieldAddr rfl (fa_42_0 _ _)) ?_))
      refine head_loadLate [4] rfl (by kernel_rfl) rfl mr Tryz.isAgg40 Tryz.sizeOf40 (rs_2_0 _ _) (fun a w σx hst => by intro t ht; simp only [List.mem_cons, List.not_mem_nil, or_false] at ht; rcases ht with rfl <;> exact ⟨_, rfl, by have h1 := (List.pairwise_append.1 hst.nd).2.1; simp at h1; dsimp only; omega⟩) (by decide) ?_
      refine yp rfl (.fieldAddr rfl (fa_42_0 _ _)) ?_
      refine head_loadLate [4] rfl (by kernel_rfl) rfl mr Tryz.isAgg40 Tryz.sizeOf40 (rs_2_0 _ _) (fun a w σx hst => by intro t ht; simp only [List.mem_cons, List.not_mem_nil, or_false] at ht; rcases ht with rfl <;> exact ⟨_, rfl, by have h1 := (List.pairwise_append.1 hst.nd).2.1; simp at h1; dsimp only; omega⟩) (by decide) ?_
      refine yp rfl (Pure1.cast (v' := .int .u64 ((n % m : Nat) : Int)) (.binOp rfl rfl (fun _ => run_rem _ _ _ _ _ (by rw [lowN_small hb]; omega))) (by rw [lowN_small ha, lowN_small hb, tmod_nat])) (yp rfl (.build [(_, _)] rfl (bd_42_0 _)) (yt rfl rfl rfl (st_2_0_2 _ _ _ _) uu Tryz.sizeOf42 rfl nb rfl ?_))
      refine yt rfl rfl rfl (st_2_0_2 _ _ _ _) uu Tryz.sizeOf42 rfl nb rfl ?_
      refine yp rfl (.assign rfl) (yn (zt ?_)); intro a w h
      refine retV h (results3 h rfl (.cell rfl mr Tryz.isAgg42 Tryz.sizeOf42 (rd_2_0_2 _ _)) (.cell rfl mr Tryz.isAgg42 Tryz.sizeOf42 (rd_2_0_2 _ _)) (.tmp rfl)) ?_
      rw [encN, encN, lowN_small (Nat.lt_of_le_of_lt (Nat.div_le_self _ _) ha), bigN_small (Nat.lt_of_le_of_lt (Nat.div_le_self _ _) ha), lowN_small (Nat.lt_of_le_of_lt (Nat.mod_le _ _) ha), bigN_small (Nat.lt_of_le_of_lt (Nat.mod_le _ _) ha)]
    · skip
      have ha : ¬ n < 18446744073709551616 := fun hn => by have := bigN_empty.2 hn; simp [this] at hc24
      refine gC h (zk (zs (zr (zd rfl mr Tryz.isAgg42 Tryz.sizeOf42 (rd_2_0_2 _ _) ?_)))); clear h; intro a w h
      refine gL h (zf [_] rfl Tryz.call78 (C_words m (by omega)) ?_); clear h; rintro v41 Ψ41 ⟨aY, cY, rfl, hcY, rfl⟩ a w h
      refine gL h (za rfl (zn (zs (zs (zr (zm rfl (zp (.builtin [_] rfl (len_slice_114 _ _ _)) (zp (.eql rfl rfl) (zn ?_))))))))); clear h; intro a w h
      change Code.wp _ _ _ _ _
      refine cond_split h rfl (fun hc44 => ?_) (fun hc44 => ?_)
      · skip
        have h1 : (wds m).length = 1 := natEq' (b := 1) hc44
        have hm1 := wds_one h1
        have hm2 := (Wd.wds m).getD 0
        rw [hm1] at hm2
        have hlt : 0 < (wds m).length := by omega
        obtain ⟨bY, bYo, bYe⟩ := h.row_addr (ad := aY) (M := u32s (wds m)) (by simp) (by simp; intro e; simp [e] at hlt)
        subst bYe
        refine gC h (zs (yD mixed_YtmajjidkkpkhcaaGreat [0, 2, 3, 4, 1, 5, 6, 7, 8, 9, 10] (floatsOK_none (by kernel_rfl)) (yd rfl rfl mr Tryz.isAgg42 Tryz.sizeOf42 (rd_2_0_2 _ _) ?_))); clear h
        refine yp rfl (.move rfl) (yp rfl (.indexAddr rfl rfl (ix_114 _ _ _ _ 0 (by omega))) ?_)
        refine head_loadRow rfl (by kernel_rfl) rfl mm (by simp; omega) Tryz.isAgg23 Tryz.sizeOf23 ((read_row 0 (by omega)).trans (by rw [hm1])) (.inr rfl) (by decide) ?_
        refine yf [_] rfl rfl Tryz.call78 (C_words n (by omega)) ?_; rintro v47 Ψ47 ⟨aX, cX, rfl, hcX, rfl⟩
        refine head_callO rfl (by kernel_rfl) (vs := [_, _]) rfl Tryz.call116 (C_short aX cX (wds n) m (Wd.wds n) (by omega) (by omega) hm2) (by simp) (by decide) ?_; rintro v51 σ51 ⟨bq, Q, rfl, hQ, hQl, hQv, rfl⟩
        refine yp rfl (.move rfl) (yp rfl (.extract rfl (fun _ => rfl)) (yp rfl (.extract rfl (fun _ => rfl)) (yp rfl (.assign rfl) (yp rfl (.assign rfl) (yn (zs (zr ?_))))))); intro a w h
        replace h := h.shareAll hS (u32s Q) rfl
        refine gL h (zm rfl (zw [_] rfl Tryz.call77 (C_of _ _ Q hQ (Nat.le_refl _) (by omega)) (zm rfl (zp (Pure1.cast (v' := .int .u64 ((n % m : Nat) : Int)) (.convert rfl (cv_23_40 _)) (by rw [valW_wds, wrap_u64n (Nat.lt_trans (Nat.mod_lt _ (by omega)) (by omega))])) (zp (.build [(_, _)] rfl (bd_42_0 _)) (zt' rfl rfl (st_2_0_2 _ _ _ _) uu Tryz.sizeOf42 rfl nb rfl ?_)))))); clear h; intro a w h
        refine gL h (zt' rfl rfl (st_2_0_2 _ _ _ _) uu Tryz.sizeOf42 rfl nb rfl ?_); clear h; intro a w h
        refine gL h (za rfl (zn (zt ?_))); clear h; intro a w h
        refine retV h (results3 h rfl (.cell rfl mr Tryz.isAgg42 Tryz.sizeOf42 (rd_2_0_2 _ _)) (.cell rfl mr Tryz.isAgg42 Tryz.sizeOf42 (rd_2_0_2 _ _)) (.tmp rfl)) ?_
        have hr : n % m < 18446744073709551616 := Nat.lt_trans (Nat.mod_lt _ (by omega)) (by omega)
        rw [hQv, valW_wds, encN, encN, lowN_small hr, bigN_small hr]
      · skip
        have h1 : (wds m).length ≠ 1 := natNe' (b := 1) hc44
        have h2 := wds_pos_len h0
        have h3 := wds_len_mono hle
        refine gC h (zk (zs (zr (zd rfl mr Tryz.isAgg42 Tryz.sizeOf42 (rd_2_0_2 _ _) ?_)))); clear h; intro a w h
        refine gL h (zf [_] rfl Tryz.call78 (C_words n (by omega)) ?_); clear h; rintro v61 Ψ61 ⟨aX, cX, rfl, hcX, rfl⟩ a w h
        refine gL h (zm rfl (zf [_, _] rfl Tryz.call117 (C_long aX cX (wds n) aY cY (wds m) (Wd.wds n) (Wd.wds m) hn (by omega) h3 (wds_lastD h0)) ?_)); clear h; rintro v63 Ψ63 ⟨a1, c1, a2, c2, Q, R, rfl, hQ, hR, hQc, hRc, hQl, hRl, hQv, hRv, rfl⟩ a w h
        refine gL h (zm rfl (zp (.extract rfl (fun _ => rfl)) (zp (.extract rfl (fun _ => rfl)) (za rfl (za rfl (zn (zs (zr (zm rfl (zw [_] rfl Tryz.call77 (C_of _ _ Q hQ hQc (by omega)) (zm rfl (zw [_] rfl Tryz.call77 (C_of _ _ R hR hRc (by omega)) (zt' rfl rfl (st_2_0_2 _ _ _ _) uu Tryz.sizeOf42 rfl nb rfl ?_))))))))))))); clear h; intro a w h
        refine gL h (zt' rfl rfl (st_2_0_2 _ _ _ _) uu Tryz.sizeOf42 rfl nb rfl ?_); clear h; intro a w h
        refine gL h (za rfl (zn (zt ?_))); clear h; intro a w h
        refine retV h (results3 h rfl (.cell rfl mr Tryz.isAgg42 Tryz.sizeOf42 (rd_2_0_2 _ _)) (.cell rfl mr Tryz.isAgg42 Tryz.sizeOf42 (rd_2_0_2 _ _)) (.tmp rfl)) ?_
        rw [hQv, hRv, valW_wds, valW_wds]

theorem C_Gcd (n m : Nat) (hn : (wds n).length ≤ 500000000000) (hm : (wds m).length ≤ 500000000000) : CtrV Tryz.prog 70 [encN n, encN m] (encN (Nat.gcd n m)) := by
  refine fn_intro Tryz.func70 rfl Tryz.ntmps70 nb ?_
  intro S w0 a hS h
  refine gC h (zs (zr (zx rfl fun b2 => zx rfl fun b3 => zz Tryz.zeroValue42 fun b4 => zn (zs (zb ?_))))); clear h; intro a w h
  refine wp_loop_inv (fun (y : Nat) a w => ∃ x : Nat, (wds x).length ≤ 500000000000 ∧ (wds y).length ≤ 500000000000 ∧ Nat.gcd x y = Nat.gcd n m ∧ St 21 S w0 [(2, .pointer (some ⟨b2, 0, none⟩)), (3, .pointer (some ⟨b3, 0, none⟩)), (4, .pointer (some ⟨b4, 0, none⟩))] [(b4, .cells (encN 0).cells 42 (0, 0)), (b3, .cells (encN y).cells 42 (0, 0)), (b2, .cells (encN x).cells 42 (0, 0))] [] a w) (fun y => y) (m) (⟨n, hn, hm, rfl, h.sub sA⟩) ?_; clear h
  rintro y a w ⟨x, hx, hy, hg, h⟩
  refine gC h (zs (zs (zr (zd rfl mr Tryz.isAgg42 Tryz.sizeOf42 (rd_2_0_2 _ _) ?_)))); clear h; intro a w h
  refine gL h (zv [_] rfl Tryz.call114 (C_zero y) (zp (.unOp rfl (un_not _)) (zn ?_))); clear h; intro a w h
  change Code.wp _ _ _ _ _
  refine cond_split h rfl (fun hc10 => ?_) (fun hc10 => ?_)
  · skip
    have hy0 : y ≠ 0 := by simpa using hc10
    refine gC h (zk (zb (zs (zr (zd rfl mr Tryz.isAgg42 Tryz.sizeOf42 (rd_2_0_2 _ _) ?_))))); clear h; intro a w h
    refine gL h (zd rfl mr Tryz.isAgg42 Tryz.sizeOf42 (rd_2_0_2 _ _) ?_); clear h; intro a w h
    refine gL h (zv [_, _] rfl Tryz.call72 (C_Div x y hx hy hy0) (zm rfl (zp (.extract rfl (fun _ => rfl)) (zp (.extract rfl (fun _ => rfl)) (zp (.extract rfl (fun _ => rfl)) (zz Tryz.zeroValue42 fun b5 => zz Tryz.zeroValue42 fun b6 => zt' rfl rfl (st_2_0_2 _ _ _ _) uu Tryz.sizeOf42 rfl nb rfl ?_)))))); clear h; intro a w h
    refine gL h (zt' rfl rfl (st_2_0_2 _ _ _ _) uu Tryz.sizeOf42 rfl nb rfl ?_); clear h; intro a w h
    refine gL h (za rfl (zn (yD mixed_YtmajjidkkpkhcaaGreat [0, 1, 2, 3] (floatsOK_none (by kernel_rfl)) (yd rfl rfl mr Tryz.isAgg42 Tryz.sizeOf42 (rd_2_0_2 _ _) ?_)))); clear h
    refine head_loadLate [2] rfl (by kernel_rfl) rfl mr Tryz.isAgg42 Tryz.sizeOf42 (rd_2_0_2 _ _) (fun a w σx hst => by intro t ht; simp only [List.mem_cons, List.not_mem_nil, or_false] at ht; rcases ht with rfl <;> exact ⟨_, rfl, by have h1 := (List.pairwise_append.1 hst.nd).2.1; simp at h1; dsimp only; omega⟩) (by decide) ?_
    refine yt rfl rfl rfl (st_2_0_2 _ _ _ _) uu Tryz.sizeOf42 rfl nb rfl ?_
    refine yt rfl rfl rfl (st_2_0_2 _ _ _ _) uu Tryz.sizeOf42 rfl nb rfl ?_
    refine yn ?_; intro a w h
    exact ⟨x % y, ⟨y, hy, Nat.le_trans (wds_len_mono (Nat.le_of_lt (Nat.mod_lt _ (Nat.pos_of_ne_zero hy0)))) hy, by rw [← hg, Nat.gcd_comm y (x % y), ← Nat.gcd_rec, Nat.gcd_comm], (h.drop (.cons _ (.cons _ (List.Sublist.refl _)))).sub sA⟩, Nat.mod_lt _ (Nat.pos_of_ne_zero hy0)⟩
  · skip
    have hy0 : y = 0 := by simpa using hc10
    subst hy0
    refine gC h (ze (zs (zr (zd rfl mr Tryz.isAgg42 Tryz.sizeOf42 (rd_2_0_2 _ _) ?_)))); clear h; intro a w h
    refine gL h (zt' rfl rfl (st_2_0_2 _ _ _ _) uu Tryz.sizeOf42 rfl nb rfl ?_); clear h; intro a w h
    refine wpList_nil (wp_ret ?_)
    refine retV h (results1 h rfl (.cell rfl mr Tryz.isAgg42 Tryz.sizeOf42 (rd_2_0_2 _ _))) ?_
    rw [← hg, Nat.gcd_zero_right]
end Go.Proofs.YtmajjidkkpkhcaaGreat
