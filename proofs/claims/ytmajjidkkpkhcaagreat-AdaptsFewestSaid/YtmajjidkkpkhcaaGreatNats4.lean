/- Written by a program of ours (gen.py) out of short specifications. By an AI agent. -/
import Derived.Test.YtmajjidkkpkhcaaGreatNats3
import Derived.Test.YtmajjidkkpkhcaaGreatFxZ
set_option linter.unusedVariables false
set_option linter.unusedSimpArgs false
set_option maxRecDepth 4000
namespace Go.Proofs.YtmajjidkkpkhcaaGreat
open Go Go.Proofs Go.Fx
attribute [local irreducible] Oper.wp Code.wp wpList Fx.Head wpOp

theorem C_wordsO (n : Nat) (hbig : ¬ n < 18446744073709551616) (hs : (wds n).length ≤ 1099511627776) :
    CtrO Tryz.prog 78 [encN n] [] (fun v σn => ∃ b, v = .slice (some ⟨b, 0, none⟩) (wds n).length (wds n).length ∧ σn = [(b, .cells (u32s (wds n)).toArray 23 (0, 0))]) := by
  refine fn_introO Tryz.func78 rfl Tryz.ntmps78 nb ?_
  intro S w0 a hS h
  refine gC h (zs (zr (zx rfl fun b1 => za rfl (zn (zs (zs (zr (zp (.fieldAddr rfl (fa_42_1 _ _)) (zd rfl mr Tryz.isAgg9 Tryz.sizeOf9 (rs_2_1 _ _) ?_))))))))); clear h; intro a w h
  refine gL h (zp (.binOp rfl rfl (fun _ => run_seql _ _ _ _ _)) (zn ?_)); clear h; intro a w h
  change Code.wp _ _ _ _ _
  refine cond_split h rfl (fun hc8 => (by exfalso; exact hbig (bigN_empty.1 (by simpa using hc8)))) (fun hc8 => ?_)
  refine gC h (zk (zs (zr (zp (.fieldAddr rfl (fa_42_1 _ _)) (zd rfl mr Tryz.isAgg9 Tryz.sizeOf9 (rs_2_1 _ _) ?_))))); clear h; intro a w h
  have hn : ¬ n < 18446744073709551616 := hbig
  refine gL h (zp (.builtin [_] rfl (len_string_9 _)) (zp (Pure1.cast (v' := .int .i64 ((wds n).length : Int)) (.binOp rfl rfl (fun _ => run_quo _ _ _ _ _ (by decide))) (by rw [bigN_size, if_neg hn]; rw [show ((4 : Int)) = ((4 : Nat) : Int) from rfl, tdiv_nat, wrap_i64 _ (by omega) (by omega)]; congr 1; omega)) ?_)); clear h; intro a w h
  refine wpl_plain (op_makeSlice h rfl rfl Tryz.runUnderlying114 Tryz.typeInfo23 Tryz.sizeOf23 Tryz.zeroValue23 rfl (by decide) (Nat.le_refl _) (by show 4 * _ ≤ _; omega) (by omega) (by decide) ?_); clear h; intro b22 a w h
  rw [show (Value.int .u32 0).cells.toList = [Value.int .u32 0] from rfl, reps_one, show List.replicate (wds n).length (Value.int .u32 0) = u32s (partW (wds n) 0 0) from by rw [partW_zero]; simp] at h
  refine gL h (za rfl (zn (zs (zs (zr (zm rfl (zp (.builtin [_] rfl (len_slice_114 _ _ _)) (zm rfl (zn (zb ?_)))))))))); clear h; intro a w h
  refine wp_loop_inv (fun (i : Nat) a w => i ≤ (wds n).length ∧ St 51 S w0 [(1, .pointer (some ⟨b1, 0, none⟩)), (3, .slice (some ⟨b22, 0, none⟩) (wds n).length (wds n).length), (24, .int .i64 ((wds n).length : Int)), (25, .int .i64 (i : Int))] [(b22, .cells (u32s (partW (wds n) i 0)).toArray 23 (0, 0)), (b1, .cells (encN n).cells 42 (0, 0))] [] a w) (fun i => (wds n).length - i) (0) (⟨Nat.zero_le _, h.sub (subL ⟨rfl, rfl, rfl, rfl, trivial⟩)⟩) ?_; clear h
  rintro i a w ⟨hi, h⟩
  refine gC h (zs (zr (zp (.lss rfl rfl) (zn (zs ?_))))); clear h; intro a w h
  refine cond_split h rfl (fun hc26 => ?_) (fun hc26 => ?_)
  · skip
    have hi' : i < (wds n).length := by simpa using hc26
    refine gC h (zk (zs (zb (zs (zr (zm rfl (za rfl (zn (zs (zr (zm rfl (zn (zb ?_))))))))))))); clear h; intro a w h
    refine wp_loop_inv (fun (k : Nat) a w => k ≤ 4 ∧ St 51 S w0 [(1, .pointer (some ⟨b1, 0, none⟩)), (3, .slice (some ⟨b22, 0, none⟩) (wds n).length (wds n).length), (24, .int .i64 ((wds n).length : Int)), (25, .int .i64 (i : Int)), (4, .int .i64 (i : Int)), (28, .int .i64 (k : Int))] [(b22, .cells (u32s (partW (wds n) i k)).toArray 23 (0, 0)), (b1, .cells (encN n).cells 42 (0, 0))] [] a w) (fun k => 4 - k) (0) (⟨by omega, h.sub sA⟩) ?_; clear h
    rintro k a w ⟨hk, h⟩
    refine gC h (zs (zr (zp (.lss rfl rfl) (zn (zs ?_))))); clear h; intro a w h
    refine cond_split h rfl (fun hc29 => ?_) (fun hc29 => ?_)
    · skip
      have hk' : k < 4 := by simp at hc29; omega
      refine gC h (zk (zs (zb (zs (zr (zm rfl (za rfl (zn (yD mixed_YtmajjidkkpkhcaaGreat [0, 1, 2, 3, 4, 5, 6, 7, 8, 9, 10, 11, 12, 13, 14, 15, 16, 17] (floatsOK_none (by kernel_rfl)) (yp rfl (.move rfl) (yp rfl (.move rfl) (yp rfl (.indexAddr rfl rfl (ix_114 _ _ _ _ _ (by omega))) (yd rfl rfl (by repeat (first | exact List.Mem.head _ | apply List.Mem.tail)) Tryz.isAgg23 Tryz.sizeOf23 ((read_row 0 (by rw [partW_length _ _ _ hi']; omega)).trans (by rw [Nat.zero_add, partW_get _ _ _ hi'])) ?_))))))))))))); clear h
      refine yp rfl (.fieldAddr rfl (fa_42_1 _ _)) (yd rfl rfl mr Tryz.isAgg9 Tryz.sizeOf9 (rs_2_1 _ _) ?_)
      refine yp rfl (.move rfl) (yp rfl (.mul rfl rfl) (yp rfl (.move rfl) (yp rfl (Pure1.cast (v' := .int .i64 ((4 * i + k : Nat) : Int)) (.add rfl rfl) (by show Value.int _ _ = Value.int _ _; congr 1)) (yp rfl (Pure1.cast (v' := .int .u8 (((wds n).getD i 0 / 256 ^ k % 256 : Nat) : Int)) (.index rfl rfl (fun _ => run_index_str Tryz.runUnderlying9 _ _ (by rw [bigN_size, if_neg hn]; omega))) (by rw [bigN_byte hn hi' hk'])) (yp rfl (.convert rfl (cv_5_23b _ (wrap_u32 _ (by omega) (by omega)))) (yp rfl (.move rfl) (yp rfl (Pure1.cast (v' := .int .i64 ((8 * k : Nat) : Int)) (.mul rfl rfl) (by show Value.int _ _ = Value.int _ _; congr 1)) (yp rfl (Pure1.cast (v' := .int .u32 (((wds n).getD i 0 / 256 ^ k % 256 * 2 ^ (8 * k) : Nat) : Int)) (.binOp rfl rfl (fun _ => run_shl _ _ _ _ _ (by show 8 * k ≤ 32; omega))) (by rw [wrap_u32 _ (by omega) (by have := shl_bound ((wds n).getD i 0 / 256 ^ k) k hk'; omega)])) (yp rfl (Pure1.cast (v' := .int .u32 (((wds n).getD i 0 % 256 ^ (k + 1) : Nat) : Int)) (.binOp rfl rfl (fun _ => run_or rfl _ _ _ _ _ (Nat.lt_of_lt_of_le (Nat.mod_lt _ (Nat.pow_pos (by omega))) (Nat.le_trans (Nat.pow_le_pow_right (by omega) (by omega : k ≤ 4)) (by decide))) (shl_bound _ _ hk'))) (by rw [or_byte])) (yp rfl (.indexAddr rfl rfl (ix_114 _ _ _ _ _ (by omega))) (yt rfl rfl rfl ((set_row (partW (wds n) i k) (0 + i) ((wds n).getD i 0 % 256 ^ (k + 1))).trans (by rw [Nat.zero_add, partW_set _ _ _ _ hi'])) (by repeat (first | exact Upd.head | apply Upd.tail)) Tryz.sizeOf23 rfl (by simp [partW_length _ _ _ hi']; omega) rfl ?_)))))))))))
      refine yn (zr (zp (.add rfl rfl) (zm rfl (zn ?_)))); intro a w h
      exact ⟨k + 1, ⟨by omega, h.sub sA⟩, by omega⟩
    · skip
      have hk' : k = 4 := by simp at hc29; omega
      subst hk'
      rw [partW_next _ _ hi' (Wd.wds n)] at h
      refine gC h (ze (zr (zp (.add rfl rfl) (zm rfl (zn ?_))))); clear h; intro a w h
      exact ⟨i + 1, ⟨by omega, h.sub sA⟩, by omega⟩
  · skip
    have hi' : i = (wds n).length := by simp at hc26; omega
    refine gC h (ze (zs (zr (zm rfl (za rfl (zn (zt ?_))))))); clear h; intro a w h
    subst hi'
    rw [partW_end] at h
    refine retO h (results1 h rfl (.tmp rfl)) ⟨b22, rfl, rfl⟩ sl

theorem u32s_flat (l : List Nat) : (u32s l).all flat = true := by simp [flat]
theorem copy_zero (X : List Nat) : setFrom (u32s (List.replicate (X.length + 1) 0)).toArray 0 (u32s X) = (u32s (X ++ [0])).toArray := by
  rw [setFrom_all _ _ (by simp)]
  simp

theorem C_Add (n m : Nat) (hn : (wds n).length ≤ 1000000000000) (hm : (wds m).length ≤ 1000000000000) : CtrV Tryz.prog 79 [encN n, encN m] (encN (n + m)) := by
  refine fn_intro Tryz.func79 rfl Tryz.ntmps79 nb ?_
  intro S w0 a hS h
  refine gC h (zs (zr (zx rfl fun b2 => zx rfl fun b3 => zz Tryz.zeroValue42 fun b4 => zn ?_))); clear h; intro a w h
  change Code.wp _ _ _ _ _
  refine wp_join (fun a w => St 80 S w0 [(2, .pointer (some ⟨b2, 0, none⟩)), (3, .pointer (some ⟨b3, 0, none⟩)), (4, .pointer (some ⟨b4, 0, none⟩))] [(b4, .cells (encN 0).cells 42 (0, 0)), (b3, .cells (encN m).cells 42 (0, 0)), (b2, .cells (encN n).cells 42 (0, 0))] [] a w) ?_ ?_
  · skip
    refine gC h (zs (zr (zp (.fieldAddr rfl (fa_42_1 _ _)) (zd rfl mr Tryz.isAgg9 Tryz.sizeOf9 (rs_2_1 _ _) ?_)))); clear h; intro a w h
    refine gL h (zp (.binOp rfl rfl (fun _ => run_seql _ _ _ _ _)) (zm rfl ?_)); clear h; intro a w h
    refine by_bool h (fun hc16 h => ?_) (fun hc16 h => ?_)
    · skip
      have ha : n < 18446744073709551616 := bigN_empty.1 (by simpa using hc16)
      refine gL h (zq 16 rfl rfl (.fieldAddr rfl (fa_42_1 _ _)) ?_); clear h; intro a w h
      refine wpl_guard 16 h rfl rfl (op_load h rfl mr Tryz.isAgg9 Tryz.sizeOf9 (rs_2_1 _ _) (by decide) ?_); clear h; intro a h
      refine gL h (zq 16 rfl rfl (.binOp rfl rfl (fun _ => run_seql _ _ _ _ _)) ?_); clear h; intro a w h
      refine by_bool h (fun hc19 h => ?_) (fun hc19 h => ?_)
      · skip
        have hb : m < 18446744073709551616 := bigN_empty.1 (by simpa using hc19)
        refine gL h (zp (.pickT rfl rfl) (zn ?_)); clear h; intro a w h
        change Code.wp _ _ _ _ _
        refine cond_true h rfl ?_
        refine gC h (zs (zr (zp (.fieldAddr rfl (fa_42_0 _ _)) (zd rfl mr Tryz.isAgg40 Tryz.sizeOf40 (rs_2_0 _ _) ?_)))); clear h; intro a w h
        refine gL h (zp (.fieldAddr rfl (fa_42_0 _ _)) (zd rfl mr Tryz.isAgg40 Tryz.sizeOf40 (rs_2_0 _ _) ?_)); clear h; intro a w h
        refine gL h (zp (.extern [_, _, _] rfl (fun w => by rw [lowN_small ha, lowN_small hb]; exact ex_Add64 n m 0 (by decide) w)) (zm rfl (zp (.extract rfl (fun _ => rfl)) (zp (.extract rfl (fun _ => rfl)) (za rfl (za rfl (zn (zs (zr (zm rfl (zp (.eql rfl rfl) (zn ?_)))))))))))); clear h; intro a w h
        change Code.wp _ _ _ _ _
        refine cond_split h rfl (fun hc30 => ?_) (fun hc30 => ?_)
        · skip
          have hsum : n + m < 18446744073709551616 := by simp at hc30; omega
          refine gC h (zs (zr (zm rfl (zp (.build [(_, _)] rfl (bd_42_0 _)) (zt' rfl rfl (st_2_0_2 _ _ _ _) uu Tryz.sizeOf42 rfl nb rfl ?_))))); clear h; intro a w h
          refine wpList_nil (wp_ret ?_)
          refine retV h (results1 h rfl (.cell rfl mr Tryz.isAgg42 Tryz.sizeOf42 (rd_2_0_2 _ _))) ?_
          have e : (n + m + 0) % 18446744073709551616 = n + m := by omega
          rw [e, encN, lowN_small hsum, bigN_small hsum]
        · skip
          refine wp_skip ?_
          exact h.sub sA
      · skip
        have hb : ¬ m < 18446744073709551616 := fun hn => by have := bigN_empty.2 hn; simp [this] at hc19
        refine gL h (zp (.pickT rfl rfl) (zn ?_)); clear h; intro a w h
        change Code.wp _ _ _ _ _
        refine cond_false h rfl ?_
        refine wp_skip ?_
        exact h.sub sA
    · skip
      have ha : ¬ n < 18446744073709551616 := fun hn => by have := bigN_empty.2 hn; simp [this] at hc16
      refine gL h (zo 16 rfl rfl rfl (zo 16 rfl rfl rfl (zo 16 rfl rfl rfl (zp (.pickF rfl rfl) (zn ?_))))); clear h; intro a w h
      change Code.wp _ _ _ _ _
      refine cond_false h rfl ?_
      refine wp_skip ?_
      exact h.sub sA
  · clear h
    intro a w h
    refine gC h (zs (yD mixed_YtmajjidkkpkhcaaGreat [0, 2, 1, 3, 4, 5] (floatsOK_none (by kernel_rfl)) (yd rfl rfl mr Tryz.isAgg42 Tryz.sizeOf42 (rd_2_0_2 _ _) ?_))); clear h
    refine yd rfl rfl mr Tryz.isAgg42 Tryz.sizeOf42 (rd_2_0_2 _ _) ?_
    refine yf [_] rfl rfl Tryz.call78 (C_words n (by omega)) ?_; rintro v34 Ψ34 ⟨a1, c1, rfl, hc1, rfl⟩
    refine yf [_] rfl rfl Tryz.call78 (C_words m (by omega)) ?_; rintro v36 Ψ36 ⟨a2, c2, rfl, hc2, rfl⟩
    refine yp rfl (.assign rfl) (yp rfl (.assign rfl) (yn ?_)); intro a w h
    change Code.wp _ _ _ _ _
    refine wp_join (fun a w => ∃ X Y aX cX aY cY, Y.length ≤ X.length ∧ X.length ≤ 1000000000000 ∧ X.length ≤ cX ∧ Y.length ≤ cY ∧ Wd X ∧ Wd Y ∧ valW X + valW Y = n + m ∧ St 80 S w0 [(4, .pointer (some ⟨b4, 0, none⟩)), (7, .slice aX X.length cX), (8, .slice aY Y.length cY)] [(b4, .cells (encN 0).cells 42 (0, 0))] [Row aX (u32s X), Row aY (u32s Y)] a w) ?_ ?_
    · skip
      refine gC h (zs (zr (zm rfl (zp (.builtin [_] rfl (len_slice_114 _ _ _)) (zm rfl (zp (.builtin [_] rfl (len_slice_114 _ _ _)) (zp (.lss rfl rfl) (zn ?_)))))))); clear h; intro a w h
      change Code.wp _ _ _ _ _
      refine cond_split h rfl (fun hc41 => ?_) (fun hc41 => ?_)
      · skip
        have hlen : (wds n).length < (wds m).length := by simpa using hc41
        refine gC h (zr (zm rfl (zm rfl (za rfl (za rfl (zn ?_)))))); clear h; intro a w h
        exact ⟨wds m, wds n, _, _, _, _, by omega, hm, hc2, hc1, Wd.wds _, Wd.wds _, by rw [valW_wds, valW_wds]; omega, ((h.drop (List.Sublist.cons_cons _ (List.nil_sublist _))).factsSub (by simp)).sub (subL ⟨rfl, rfl, rfl, trivial⟩)⟩
      · skip
        have hlen : (wds m).length ≤ (wds n).length := by simpa using hc41
        refine wp_skip ?_
        exact ⟨wds n, wds m, _, _, _, _, by omega, hn, hc1, hc2, Wd.wds _, Wd.wds _, by rw [valW_wds, valW_wds], ((h.drop (List.Sublist.cons_cons _ (List.nil_sublist _))).factsSub (by simp)).sub (subL ⟨rfl, rfl, rfl, trivial⟩)⟩
    · clear h
      rintro a w ⟨X, Y, aX, cX, aY, cY, hYX, hX12, hXc, hYc, hX, hY, hV, h⟩
      refine gC h (zs (zr (zm rfl (zp (.builtin [_] rfl (len_slice_114 _ _ _)) (zp (Pure1.cast (v' := .int .i64 ((X.length + 1 : Nat) : Int)) (.add rfl rfl) (by show Value.int _ _ = Value.int _ _; congr 1)) ?_))))); clear h; intro a w h
      refine wpl_plain (op_makeSlice h rfl rfl Tryz.runUnderlying114 Tryz.typeInfo23 Tryz.sizeOf23 Tryz.zeroValue23 rfl (by decide) (by exact Nat.le_refl _) (by show 4 * _ ≤ _; omega) (by omega) (by decide) ?_); clear h; intro b47 a w h
      rw [show (Value.int .u32 0).cells.toList = [Value.int .u32 0] from rfl, reps_one, show List.replicate (X.length + 1) (Value.int .u32 0) = u32s (List.replicate (X.length + 1) 0) from by simp] at h
      refine gL h (za rfl (zn (zs (zr (zm rfl (zm rfl ?_)))))); clear h; intro a w h
      refine wpl_plain (op_copyRow h rfl rfl (M := u32s X) (by simp) (by simp) Tryz.runUnderlying114 Tryz.sizeOf23 (by omega) (by decide) (copy_zero X) (by repeat (first | exact Upd.head | apply Upd.tail)) (by simp) (u32s_flat X) (by decide) ?_); clear h; intro a w h
      rw [show X.length + 1 = (X ++ [0]).length from by simp] at h
      refine gL h (zn (zs (zr (za rfl (zn (zs (zs (zr (zm rfl (zp (.builtin [_] rfl (len_slice_114 _ _ _)) (zm rfl (zn (zb ?_))))))))))))); clear h; intro a w h
      refine wp_loop_inv (fun (i : Nat) a w => ∃ Z c, i ≤ Z.length ∧ Z.length = X.length + 1 ∧ Wd Z ∧ c ≤ 1 ∧ valW Z + 4294967296 ^ i * (c + valW (Y.drop i)) = n + m ∧ St 80 S w0 [(4, .pointer (some ⟨b4, 0, none⟩)), (8, .slice aY Y.length cY), (9, .slice (some ⟨b47, 0, none⟩) Z.length Z.length), (10, .int .u32 (c : Int)), (52, .int .i64 (Z.length : Int)), (53, .int .i64 (i : Int))] [(b47, .cells (u32s Z).toArray 23 (0, 0)), (b4, .cells (encN 0).cells 42 (0, 0))] [Row aY (u32s Y)] a w) (fun i => X.length + 1 - i) (0) (⟨X ++ [0], 0, Nat.zero_le _, by simp, hX.append (Wd.zeros 1), by omega, by rw [valW_append]; simp [valW]; omega, (h.factsSub (by simp)).sub (subL ⟨rfl, rfl, rfl, rfl, rfl, rfl, trivial⟩)⟩) ?_; clear h
      rintro i a w ⟨Z, c, hi, hZl, hZ, hc, hT, h⟩
      refine gC h (zs (zr (zp (.lss rfl rfl) (zn (zs ?_))))); clear h; intro a w h
      refine cond_split h rfl (fun hc54 => ?_) (fun hc54 => ?_)
      · skip
        have hi' : i < Z.length := by simpa using hc54
        refine gC h (zk (zs (zb (zs (zr (zm rfl (za rfl (zn (zs (zr (za rfl (zn ?_)))))))))))); clear h; intro a w h
        change Code.wp _ _ _ _ _
        refine wp_join (fun a w => St 80 S w0 [(4, .pointer (some ⟨b4, 0, none⟩)), (8, .slice aY Y.length cY), (9, .slice (some ⟨b47, 0, none⟩) Z.length Z.length), (10, .int .u32 (c : Int)), (11, .int .i64 (i : Int)), (12, .int .u32 (Y.getD i 0 : Int)), (52, .int .i64 (Z.length : Int)), (53, .int .i64 (i : Int))] [(b47, .cells (u32s Z).toArray 23 (0, 0)), (b4, .cells (encN 0).cells 42 (0, 0))] [Row aY (u32s Y)] a w) ?_ ?_
        · skip
          refine gC h (zs (zr (zm rfl (zm rfl (zp (.builtin [_] rfl (len_slice_114 _ _ _)) (zp (.lss rfl rfl) (zn ?_))))))); clear h; intro a w h
          change Code.wp _ _ _ _ _
          refine cond_split h rfl (fun hc59 => ?_) (fun hc59 => ?_)
          · skip
            have hlt : i < Y.length := by simpa using hc59
            obtain ⟨bY, bYo, bYe⟩ := h.row_addr (ad := aY) (M := u32s Y) (by simp) (by simp; intro e; simp [e] at hlt)
            subst bYe
            refine gC h (zr (zm rfl (zm rfl (zp (.indexAddr rfl rfl (ix_114 _ _ _ _ _ (by omega))) (zD rfl mm (by simp; omega) Tryz.isAgg23 Tryz.sizeOf23 (read_row 0 (by omega)) (.inr rfl) ?_))))); clear h; intro a w h
            refine gL h (za rfl (zn ?_)); clear h; intro a w h
            exact h.sub sA
          · skip
            have hlt : Y.length ≤ i := by simpa using hc59
            refine wp_skip ?_
            rw [getD_ge hlt]
            exact h.sub sA
        · clear h
          intro a w h
          refine gC h (zr (zm rfl (zm rfl (zm rfl (zm rfl (zp (.indexAddr rfl rfl (ix_114 _ _ _ _ _ (by omega))) (zd rfl mm Tryz.isAgg23 Tryz.sizeOf23 ((read_row 0 (by rw [Nat.zero_add]; omega)).trans (by rw [Nat.zero_add])) ?_))))))); clear h; intro a w h
          refine gL h (zm rfl (zm rfl (zv [_, _, _] rfl Tryz.call121 (C_Add32 _ _ _ (hZ.getD i) (hY.getD i) hc) (zm rfl (zp (.extract rfl (fun _ => rfl)) (zp (.extract rfl (fun _ => rfl)) (zp (.indexAddr rfl rfl (ix_114 _ _ _ _ _ (by omega))) (zt' rfl rfl ((set_row Z (0 + i) ((Z.getD i 0 + Y.getD i 0 + c) % 4294967296)).trans (by rw [Nat.zero_add])) uu Tryz.sizeOf23 rfl (by simp; omega) rfl ?_)))))))); clear h; intro a w h
          refine gL h (za rfl (zn (zr (zp (.add rfl rfl) (zm rfl (zn ?_)))))); clear h; intro a w h
          refine ⟨i + 1, ⟨Z.set i ((Z.getD i 0 + Y.getD i 0 + c) % 4294967296), _, by simp; omega, by simpa using hZl, hZ.set _ _ (Nat.mod_lt _ (by decide)), ?_, add_step hi' hT, by rw [List.length_set]; exact h.sub (subL ⟨rfl, rfl, rfl, rfl, rfl, rfl, trivial⟩)⟩, by omega⟩
          have hz := hZ.getD i
          have hy := hY.getD i
          omega
      · skip
        have hi' : i = Z.length := by simp at hc54; omega
        refine wp_exit (wp_seq (wp_region_lit ?_))
        replace h := h.shareAll hS (u32s Z) rfl
        refine gL h (zm rfl (zw [_] rfl Tryz.call77 (C_of _ _ Z hZ (Nat.le_refl _) (by omega)) (zt' rfl rfl (st_2_0_2 _ _ _ _) uu Tryz.sizeOf42 rfl nb rfl ?_))); clear h; intro a w h
        refine wpList_nil (wp_ret ?_)
        refine retV h (results1 h rfl (.cell rfl mr Tryz.isAgg42 Tryz.sizeOf42 (rd_2_0_2 _ _))) ?_
        rw [hi'] at hT
        have e : valW Z = n + m := add_end (N := Z.length) (c := c) (by rw [List.drop_eq_nil_of_le (by omega)] at hT; simpa [valW] using hT) (by rw [← hV, hZl]; exact add_lt hX hY hYX)
        rw [e]
end Go.Proofs.YtmajjidkkpkhcaaGreat
