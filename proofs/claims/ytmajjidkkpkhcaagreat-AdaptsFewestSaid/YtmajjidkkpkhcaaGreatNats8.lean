/- Written by a program of ours (gen.py) out of short specifications. By an AI agent. -/
import Derived.Test.YtmajjidkkpkhcaaGreatNats7
import Derived.Test.YtmajjidkkpkhcaaGreatNumK
import Derived.Test.YtmajjidkkpkhcaaGreatFxZ
set_option linter.unusedVariables false
set_option linter.unusedSimpArgs false
set_option maxRecDepth 4000
namespace Go.Proofs.YtmajjidkkpkhcaaGreat
open Go Go.Proofs Go.Fx
attribute [local irreducible] Oper.wp Code.wp wpList Fx.Head wpOp
theorem sll_114 (b off n c lo hi : Nat) (h1 : lo ≤ hi) (h2 : hi ≤ c) (h3 : lo < c) (w : World) : (Instr.sliceAt 114 (.slice (some ⟨b, off, none⟩) n c) (some (.int .i64 (lo : Int))) (some (.int .i64 (hi : Int))) none).run Tryz.prog w = .ok (.slice (some ⟨b, off + lo, none⟩) (hi - lo) (c - lo)) w := by
  simpa using sliceAt_lh Tryz.runUnderlying114 Tryz.sizeOf23 b off n c lo hi h1 h2 h3 w
theorem C_long (ax : Option Addr) (cx : Nat) (X : List Nat) (ay : Option Addr) (cy : Nat) (Y : List Nat) (hX : Wd X) (hY : Wd Y) (hm : X.length ≤ 500000000000) (hY2 : 2 ≤ Y.length) (hYX : Y.length ≤ X.length) (hlast : Y.getD (Y.length - 1) 0 ≠ 0) :
    Ctr Tryz.prog 117 [.slice ax X.length cx, .slice ay Y.length cy] [Row ax (u32s X), Row ay (u32s Y)]
      (fun v Ψ => ∃ a1 c1 a2 c2 Q R, v = .tuple #[.slice a1 Q.length c1, .slice a2 R.length c2] ∧ Wd Q ∧ Wd R ∧ Q.length ≤ c1 ∧ R.length ≤ c2 ∧ Q.length ≤ X.length + 1 ∧ R.length ≤ X.length + 1 ∧ valW Q = valW X / valW Y ∧ valW R = valW X % valW Y ∧ Ψ = [Row a1 (u32s Q), Row a2 (u32s R)]) := by
  obtain ⟨e, he⟩ : ∃ e, Y.length = e + 2 := ⟨Y.length - 2, by omega⟩
  rw [show Y.length - 1 = e + 1 by omega] at hlast
  refine fn_intro Tryz.func117 rfl Tryz.ntmps117 nb ?_
  intro S w0 a hS h
  refine gC h (zs (zr (za rfl (za rfl (zn (zs (zr ?_))))))); clear h; intro a w h
  have hlt : 0 < Y.length := by omega
  obtain ⟨bY, bYo, bYe⟩ := h.row_addr (ad := ay) (M := u32s Y) (by simp) (by simp; intro e; simp [e] at hlt)
  subst bYe
  refine gL h (zm rfl (zm rfl (zp (.builtin [_] rfl (len_slice_114 _ _ _)) (zp (Pure1.cast (v' := .int .i64 ((e + 1 : Nat) : Int)) (.sub rfl rfl) (by show Value.int _ _ = Value.int _ _; congr 1 <;> omega)) (zp (.indexAddr rfl rfl (ix_114 _ _ _ _ _ (by omega))) (zD rfl mm (by simp; omega) Tryz.isAgg23 Tryz.sizeOf23 (read_row 0 (by omega)) (.inr rfl) ?_)))))); clear h; intro a w h
  refine gL h (zv [_] rfl Tryz.call134 (C_LeadingZeros32 _ (hY.getD _)) ?_); clear h; intro a w h
  obtain ⟨hs, hn1, hn2⟩ := long_norm (last := Y.getD (e + 1) 0) hlast (hY.getD _) rfl
  generalize 32 - lenI (Y.getD (e + 1) 0) = s at h hs hn1 hn2
  refine gL h (za rfl (zn (zs (yD mixed_YtmajjidkkpkhcaaGreat [0, 1, 3, 4, 6, 7, 2, 5, 8, 9, 10] (floatsOK_none (by kernel_rfl)) (yp rfl (.move rfl) (yp rfl (.move rfl) (yp rfl (.move rfl) (yp rfl (.move rfl) (yp rfl (.move rfl) (yp rfl (.builtin [_] rfl (len_slice_114 _ _ _)) ?_)))))))))); clear h
  refine head_callO rfl (by kernel_rfl) (vs := [_, _]) rfl Tryz.call135 (C_shifted ax cx X s hX (by omega) hs) (by simp) (by decide) ?_; rintro v26 σ26 ⟨b26, Z0, rfl, hZ0, hZ0l, hZ0v, rfl⟩
  refine head_callO rfl (by kernel_rfl) (vs := [_, _]) rfl Tryz.call135 (C_shifted _ cy Y s hY (by omega) hs) (by simp) (by decide) ?_; rintro v29 σ29 ⟨b29, V0, rfl, hV0, hV0l, hV0v, rfl⟩
  refine yp rfl (.slice rfl none (some _) none rfl rfl rfl (slh_114 _ _ _ _ (by omega))) (yp rfl (.assign rfl) (yp rfl (.assign rfl) (yn (zs (zr ?_))))); intro a w h
  replace h := h.shareAll hS (u32s V0) rfl
  replace h := h.derive (R := Row (some ⟨b29, 0, none⟩) (u32s (V0.take Y.length))) (fun X hX => by rw [u32s, List.map_take]; exact row_take (hX _ List.mem_cons_self) _)
  obtain ⟨hVv, hv1⟩ := long_divisor hY he hs hn1 hn2 hV0 hV0v
  have hVl : (V0.take Y.length).length = Y.length := by simp; omega
  have hV : Wd (V0.take Y.length) := hV0.take _
  generalize hVd : V0.take Y.length = V at h hVv hv1 hVl hV
  rw [← hVl] at h
  have hVe : V.length = e + 2 := by omega
  have hYge : 4294967296 ^ (V.length - 1) ≤ valW Y := by
    have h1 := valW_take_succ' Y (e + 1) (by omega)
    rw [show e + 1 + 1 = Y.length by omega, List.take_length] at h1
    rw [show V.length - 1 = e + 1 by omega, h1]
    have := Nat.mul_le_mul_left (4294967296 ^ (e + 1)) (Nat.pos_of_ne_zero hlast)
    omega
  obtain ⟨M, hM⟩ : ∃ M, Z0.length = M + V.length := ⟨Z0.length - V.length, by omega⟩
  refine gL h (zm rfl (zp (Pure1.cast (v' := .int .i64 (V.length : Int)) (.builtin [_] rfl (len_slice_114 _ _ _)) (by rfl)) (za rfl (zn (zs (zr (zm rfl (zp (.builtin [_] rfl (len_slice_114 _ _ _)) (zm rfl (zp (Pure1.cast (v' := .int .i64 ((M : Nat) : Int)) (.sub rfl rfl) (by show Value.int _ _ = Value.int _ _; congr 1 <;> omega)) ?_)))))))))); clear h; intro a w h
  refine wpl_plain (op_makeSlice h rfl rfl Tryz.runUnderlying114 Tryz.typeInfo23 Tryz.sizeOf23 Tryz.zeroValue23 rfl (by decide) (by exact Nat.le_refl _) (by show 4 * _ ≤ _; omega) (by omega) (by decide) ?_); clear h; intro b39 a w h
  rw [show (Value.int .u32 0).cells.toList = [Value.int .u32 0] from rfl, reps_one, show List.replicate M (Value.int .u32 0) = u32s (List.replicate M 0) from by simp] at h
  refine gL h (za rfl (zn (zs (zs (zr (zm rfl (zp (.builtin [_] rfl (len_slice_114 _ _ _)) (zp (.sub rfl rfl) (za rfl (zn (zb ?_))))))))))); clear h; intro a w h
  refine wp_loop_inv (fun (κ : Nat) a w => ∃ (Z Q : List Nat), κ ≤ M ∧ Z.length = Z0.length ∧ Wd Z ∧ Q.length = M ∧ Wd Q ∧ valW Z + 4294967296 ^ κ * (valW V * valW (Q.drop κ)) = valW Z0 ∧ valW (Z.drop κ) < valW V ∧ St 175 S w0 [(4, .slice (some ⟨b39, 0, none⟩) M M), (6, .int .i64 (s : Int)), (7, .slice (some ⟨b26, 0, none⟩) Z0.length Z0.length), (8, .slice (some ⟨b29, 0, none⟩) V.length V0.length), (9, .int .i64 (V.length : Int)), (10, .int .i64 ((κ : Int) - 1))] [(b26, .cells (u32s Z).toArray 23 (0, 0)), (b39, .cells (u32s Q).toArray 23 (0, 0))] [Row (some ⟨b29, 0, none⟩) (u32s V)] a w) (fun κ => κ) (M) (⟨Z0, List.replicate M 0, Nat.le_refl _, rfl, hZ0, by simp, Wd.zeros _, by simp [valW], by rw [hVv]; exact long_start hX hZ0v hYge (by omega) (by omega), ((h.perm (List.Perm.swap _ _ _)).factsSub (by simp)).sub (subL ⟨rfl, rfl, rfl, rfl, rfl, rfl, trivial⟩)⟩) ?_; clear h
  rintro κ a w ⟨Z, Q, hκ, hZl, hZ, hQl, hQ, hT, hR, h⟩
  refine gC h (zs (zs (zr (zm rfl (zp (.geq rfl rfl) (zn ?_)))))); clear h; intro a w h
  change Code.wp _ _ _ _ _
  refine cond_split h rfl (fun hc44 => ?_) (fun hc44 => ?_)
  · skip
    have hκ0 : 0 < κ := by simp at hc44; omega
    obtain ⟨p, W, hh, rfl, hp, hWl, hpw, hWw, hhw, hh0, hUlt⟩ := long_window (k := κ - 1) (n := V.length) hZ (by omega) (valW_lt hV) (by rw [Nat.sub_add_cancel hκ0]; exact hR)
    obtain rfl : κ = p.length + 1 := by omega
    have hU3 := valW_top3 (l := W) (e := e) (by omega)
    have hV2 := valW_top2 (l := V) (e := e) (by omega)
    have hlu := valW_take_lt hWw e
    have hlv := valW_take_lt hV e
    have hw2 := hWw.getD (e + 2)
    have hw1 := hWw.getD (e + 1)
    have hw0 := hWw.getD e
    have hvv1 := hV.getD (e + 1)
    have hvv2 := hV.getD e
    refine gC h (zk (zs (zb (zc (zs (yD mixed_YtmajjidkkpkhcaaGreat [0, 1, 2, 3, 4, 5, 6, 7, 8, 9, 10, 11, 12, 13, 14, 15, 16, 17] (floatsOK_none (by kernel_rfl)) (yp rfl (.move rfl) (yp rfl (Pure1.cast (v' := .int .i64 ((p.length : Nat) : Int)) (.move rfl) (by show Value.int _ _ = Value.int _ _; congr 1 <;> omega)) (yp rfl (.move rfl) (yp rfl (Pure1.cast (v' := .int .i64 ((p.length + (e + 2) : Nat) : Int)) (.add rfl rfl) (by show Value.int _ _ = Value.int _ _; congr 1 <;> omega)) (yp rfl (.indexAddr rfl rfl (ix_114 _ _ _ _ _ (by omega))) (yd rfl rfl mm Tryz.isAgg23 Tryz.sizeOf23 ((read_row 0 (by simp; omega)).trans (by rw [Nat.zero_add, getD_mid _ _ _ _ (by omega)])) ?_)))))))))))); clear h
    refine yp rfl (.convert rfl (cv_23_40b _ (wrap_u64 _ (by omega) (by omega)))) (yp rfl (Pure1.cast (v' := .int .u64 ((W.getD (e + 2) 0 * 4294967296 : Nat) : Int)) (.binOp rfl rfl (fun _ => run_shl _ _ _ _ 32 (by decide))) (by rw [wrap_u64 _ (by omega) (by omega)])) (yp rfl (.move rfl) (yp rfl (Pure1.cast (v' := .int .i64 ((p.length : Nat) : Int)) (.move rfl) (by show Value.int _ _ = Value.int _ _; congr 1 <;> omega)) (yp rfl (.move rfl) (yp rfl (Pure1.cast (v' := .int .i64 ((p.length + (e + 2) : Nat) : Int)) (.add rfl rfl) (by show Value.int _ _ = Value.int _ _; congr 1 <;> omega)) (yp rfl (Pure1.cast (v' := .int .i64 ((p.length + (e + 1) : Nat) : Int)) (.sub rfl rfl) (by show Value.int _ _ = Value.int _ _; congr 1 <;> omega)) (yp rfl (.indexAddr rfl rfl (ix_114 _ _ _ _ _ (by omega))) (yd rfl rfl mm Tryz.isAgg23 Tryz.sizeOf23 ((read_row 0 (by simp; omega)).trans (by rw [Nat.zero_add, getD_mid _ _ _ _ (by omega)])) ?_))))))))
    refine yp rfl (.convert rfl (cv_23_40b _ (wrap_u64 _ (by omega) (by omega)))) (yp rfl (Pure1.cast (v' := .int .u64 ((4294967296 * W.getD (e + 2) 0 + W.getD (e + 1) 0 : Nat) : Int)) (.binOp rfl rfl (fun _ => run_or rfl _ _ _ _ _ (by show _ < 18446744073709551616; omega) (by show _ < 18446744073709551616; omega))) (by rw [or_hi _ _ hw1])) (yp rfl (.assign rfl) ?_))
    have htl : 4294967296 * W.getD (e + 2) 0 + W.getD (e + 1) 0 < 18446744073709551616 := by omega
    have htop := top_lt hU3 hV2 hvv2 hlv hUlt
    generalize hTop : 4294967296 * W.getD (e + 2) 0 + W.getD (e + 1) 0 = top at hU3 htl htop ⊢
    refine yn (zs (yD mixed_YtmajjidkkpkhcaaGreat [0, 1, 2, 3, 4, 5, 6, 7, 8, 9, 10, 11, 12, 13, 14, 15, 16, 17] (floatsOK_none (by kernel_rfl)) (yp rfl (.move rfl) (yp rfl (.move rfl) (yp rfl (.move rfl) (yp rfl (Pure1.cast (v' := .int .i64 ((e + 1 : Nat) : Int)) (.sub rfl rfl) (by show Value.int _ _ = Value.int _ _; congr 1 <;> omega)) (yp rfl (.indexAddr rfl rfl (ix_114 _ _ _ _ _ (by omega))) ?_)))))))
    refine head_loadRow rfl (by kernel_rfl) rfl mm (by simp; omega) Tryz.isAgg23 Tryz.sizeOf23 (read_row 0 (by omega)) (.inr rfl) (by decide) ?_
    refine yp rfl (.convert rfl (cv_23_40b _ (wrap_u64 _ (by omega) (by omega)))) (yp rfl (Pure1.cast (v' := .int .u64 ((top / V.getD (e + 1) 0 : Nat) : Int)) (.binOp rfl rfl (fun _ => run_quo _ _ _ _ _ (by omega))) (by rw [tdiv_nat, wrap_u64n (Nat.lt_of_le_of_lt (Nat.div_le_self _ _) htl)])) (yp rfl (.move rfl) (yp rfl (.move rfl) (yp rfl (.move rfl) (yp rfl (Pure1.cast (v' := .int .i64 ((e + 1 : Nat) : Int)) (.sub rfl rfl) (by show Value.int _ _ = Value.int _ _; congr 1 <;> omega)) (yp rfl (.indexAddr rfl rfl (ix_114 _ _ _ _ _ (by omega))) ?_))))))
    refine head_loadRow rfl (by kernel_rfl) rfl mm (by simp; omega) Tryz.isAgg23 Tryz.sizeOf23 (read_row 0 (by omega)) (.inr rfl) (by decide) ?_
    refine yp rfl (.convert rfl (cv_23_40b _ (wrap_u64 _ (by omega) (by omega)))) (yp rfl (Pure1.cast (v' := .int .u64 ((top % V.getD (e + 1) 0 : Nat) : Int)) (.binOp rfl rfl (fun _ => run_rem _ _ _ _ _ (by omega))) (by rw [tmod_nat])) (yp rfl (.assign rfl) (yp rfl (.assign rfl) (yn (zs (zl ?_)))))); intro a w h
    change Code.wp _ _ _ _ _
    refine wp_join (fun a w => ∃ dg : Nat, dg < 4294967296 ∧ dg * valW V ≤ valW W + valW V ∧ valW W < (dg + 1) * valW V ∧ St 175 S w0 [(4, .slice (some ⟨b39, 0, none⟩) M M), (6, .int .i64 (s : Int)), (7, .slice (some ⟨b26, 0, none⟩) Z0.length Z0.length), (8, .slice (some ⟨b29, 0, none⟩) V.length V0.length), (9, .int .i64 (V.length : Int)), (10, .int .i64 (((p.length + 1 : Nat) : Int) - 1)), (12, .int .u64 (dg : Int))] [(b26, .cells (u32s (p ++ W ++ hh)).toArray 23 (0, 0)), (b39, .cells (u32s Q).toArray 23 (0, 0))] [Row (some ⟨b29, 0, none⟩) (u32s V)] a w) ?_ ?_
    · skip
      refine wp_block ?_
      refine wp_loop_inv (fun (dg : Nat) a w => ∃ rest : Nat, dg * V.getD (e + 1) 0 + rest = top ∧ valW W < (dg + 1) * valW V ∧ rest < 8589934592 ∧ St 175 S w0 [(4, .slice (some ⟨b39, 0, none⟩) M M), (6, .int .i64 (s : Int)), (7, .slice (some ⟨b26, 0, none⟩) Z0.length Z0.length), (8, .slice (some ⟨b29, 0, none⟩) V.length V0.length), (9, .int .i64 (V.length : Int)), (10, .int .i64 (((p.length + 1 : Nat) : Int) - 1)), (12, .int .u64 (dg : Int)), (13, .int .u64 (rest : Int))] [(b26, .cells (u32s (p ++ W ++ hh)).toArray 23 (0, 0)), (b39, .cells (u32s Q).toArray 23 (0, 0))] [Row (some ⟨b29, 0, none⟩) (u32s V)] a w) (fun dg => dg) (top / V.getD (e + 1) 0) (⟨top % V.getD (e + 1) 0, by rw [Nat.mul_comm]; exact Nat.div_add_mod _ _, guess_init hU3 hV2 hw0 hlu (by omega), Nat.lt_trans (Nat.mod_lt _ (by omega)) (by omega), h.sub (subL ⟨rfl, rfl, rfl, rfl, rfl, rfl, rfl, rfl, trivial⟩)⟩) ?_; clear h
      rintro dg a w ⟨rest, hIg, hUd, hrest, h⟩
      have hdgle := digit_le hIg htop hv1
      refine gC h (zs (zs (zr (zm rfl (zp (.leq rfl rfl) (zn ?_)))))); clear h; intro a w h
      change Code.wp _ _ _ _ _
      refine cond_split h rfl (fun hc81 => ?_) (fun hc81 => ?_)
      · skip
        have hr : rest < 4294967296 := by have := of_decide_eq_true hc81; omega
        refine gC h (zk (zb (zs (zs (yD mixed_YtmajjidkkpkhcaaGreat [0, 1, 2, 3, 4, 5, 6, 7, 8, 9, 10, 11, 12, 13, 14, 15, 16, 17, 18, 19, 20, 21, 22, 23] (floatsOK_none (by kernel_rfl)) (yp rfl (.move rfl) (yp rfl (.leq rfl rfl) (yp rfl (.move rfl) ?_)))))))); clear h
        refine head_bool (fun hc84  => ?_) (fun hc84  => ?_)
        · skip
          have hdg : dg < 4294967296 := by have := of_decide_eq_true hc84; omega
          have hmul := mul32_lt hdg hvv2
          refine yq rfl rfl rfl (.move rfl) (yq rfl rfl rfl (.move rfl) (yq rfl rfl rfl (.move rfl) (yq rfl rfl rfl (Pure1.cast (v' := .int .i64 ((e : Nat) : Int)) (.sub rfl rfl) (by show Value.int _ _ = Value.int _ _; congr 1 <;> omega)) (yq rfl rfl rfl (.indexAddr rfl rfl (ix_114 _ _ _ _ _ (by omega))) ?_))))
          refine head_loadRowG rfl rfl rfl (by kernel_rfl) rfl mm (by simp; omega) Tryz.isAgg23 Tryz.sizeOf23 (read_row 0 (by omega)) (.inr rfl) (by decide) ?_
          refine yq rfl rfl rfl (.convert rfl (cv_23_40b _ (wrap_u64 _ (by omega) (by omega)))) (yq rfl rfl rfl (Pure1.cast (v' := .int .u64 ((dg * V.getD e 0 : Nat) : Int)) (.binOp rfl rfl (fun _ => run_mul _ _ _ _ _)) (by rw [wrap_mul64 (by omega)])) (yq rfl rfl rfl (.move rfl) (yq rfl rfl rfl (Pure1.cast (v' := .int .u64 ((rest * 4294967296 : Nat) : Int)) (.binOp rfl rfl (fun _ => run_shl _ _ _ _ 32 (by decide))) (by rw [wrap_u64 _ (by omega) (by omega)])) (yq rfl rfl rfl (.move rfl) (yq rfl rfl rfl (Pure1.cast (v' := .int .i64 ((p.length : Nat) : Int)) (.move rfl) (by show Value.int _ _ = Value.int _ _; congr 1 <;> omega)) (yq rfl rfl rfl (.move rfl) (yq rfl rfl rfl (Pure1.cast (v' := .int .i64 ((p.length + (e + 2) : Nat) : Int)) (.add rfl rfl) (by show Value.int _ _ = Value.int _ _; congr 1 <;> omega)) (yq rfl rfl rfl (Pure1.cast (v' := .int .i64 ((p.length + e : Nat) : Int)) (.sub rfl rfl) (by show Value.int _ _ = Value.int _ _; congr 1 <;> omega)) (yq rfl rfl rfl (.indexAddr rfl rfl (ix_114 _ _ _ _ _ (by omega))) (yg rfl rfl rfl rfl mm Tryz.isAgg23 Tryz.sizeOf23 ((read_row 0 (by simp; omega)).trans (by rw [Nat.zero_add, getD_mid _ _ _ _ (by omega)])) ?_))))))))))
          refine yq rfl rfl rfl (.convert rfl (cv_23_40b _ (wrap_u64 _ (by omega) (by omega)))) (yq rfl rfl rfl (Pure1.cast (v' := .int .u64 ((4294967296 * rest + W.getD e 0 : Nat) : Int)) (.binOp rfl rfl (fun _ => run_or rfl _ _ _ _ _ (by show _ < 18446744073709551616; omega) (by show _ < 18446744073709551616; omega))) (by rw [or_hi _ _ hw0])) (yq rfl rfl rfl (.leq rfl rfl) ?_))
          refine head_bool (fun hc104  => ?_) (fun hc104  => ?_)
          · skip
            have hle : dg * V.getD e 0 ≤ 4294967296 * rest + W.getD e 0 := by have := of_decide_eq_true hc104; exact_mod_cast this
            refine yp rfl (.pickT rfl rfl) (yn ?_); intro a w h
            change Code.wp _ _ _ _ _
            refine cond_true h rfl ?_
            refine wp_exit ?_
            exact ⟨dg, hdg, guess_end hU3 hV2 (by omega) hvv2 hlv hIg (by omega) (.inr hle), hUd, h.sub sA⟩
          · skip
            have hcase : 4294967296 ≤ dg ∨ 4294967296 * rest + W.getD e 0 < dg * V.getD e 0 := .inr (by have := of_decide_eq_false hc104; exact Nat.lt_of_not_le fun hh => this (by exact_mod_cast hh))
            refine yp rfl (.pickT rfl rfl) (yn ?_); intro a w h
            change Code.wp _ _ _ _ _
            refine cond_false h rfl ?_
            refine wp_skip (wp_seq (wp_region_lit ?_))
            have hnext := guess_dec hU3 hV2 hlu hIg hUlt hcase
            have hdg0 : 0 < dg := Nat.pos_of_ne_zero fun h0 => by subst h0; simp at hnext
            refine gL h (zm rfl (zp (Pure1.cast (v' := .int .u64 ((dg - 1 : Nat) : Int)) (.binOp rfl rfl (fun _ => run_sub _ _ _ _ _)) (by rw [wrap_u64 _ (by omega) (by omega)]; congr 1; omega)) (za rfl (zn (zr (zm rfl (zm rfl (zm rfl (zp (Pure1.cast (v' := .int .i64 ((e + 1 : Nat) : Int)) (.sub rfl rfl) (by show Value.int _ _ = Value.int _ _; congr 1 <;> omega)) (zp (.indexAddr rfl rfl (ix_114 _ _ _ _ _ (by omega))) (zD rfl mm (by simp; omega) Tryz.isAgg23 Tryz.sizeOf23 (read_row 0 (by omega)) (.inr rfl) ?_))))))))))); clear h; intro a w h
            refine gL h (zp (.convert rfl (cv_23_40b _ (wrap_u64 _ (by omega) (by omega)))) (zp (Pure1.cast (v' := .int .u64 ((rest + V.getD (e + 1) 0 : Nat) : Int)) (.binOp rfl rfl (fun _ => run_add _ _ _ _ _)) (by rw [wrap_add64 (by omega)])) (za rfl (zn ?_)))); clear h; intro a w h
            exact ⟨dg - 1, ⟨rest + V.getD (e + 1) 0, guess_next hIg hdg0, by rw [Nat.sub_add_cancel hdg0]; exact hnext, by omega, h.sub sA⟩, by omega⟩
        · skip
          have hcase : 4294967296 ≤ dg ∨ 4294967296 * rest + W.getD e 0 < dg * V.getD e 0 := .inl (by have := of_decide_eq_false hc84; omega)
          refine yo 84 rfl rfl rfl rfl (yo 84 rfl rfl rfl rfl (yo 84 rfl rfl rfl rfl (yo 84 rfl rfl rfl rfl (yo 84 rfl rfl rfl rfl (yo 84 rfl rfl rfl rfl (yo 84 rfl rfl rfl rfl (yo 84 rfl rfl rfl rfl (yo 84 rfl rfl rfl rfl (yo 84 rfl rfl rfl rfl (yo 84 rfl rfl rfl rfl (yo 84 rfl rfl rfl rfl (yo 84 rfl rfl rfl rfl (yo 84 rfl rfl rfl rfl (yo 84 rfl rfl rfl rfl (yo 84 rfl rfl rfl rfl (yo 84 rfl rfl rfl rfl (yo 84 rfl rfl rfl rfl (yo 84 rfl rfl rfl rfl (yo 84 rfl rfl rfl rfl (yp rfl (.pickF rfl rfl) (yn ?_))))))))))))))))))))); intro a w h
          change Code.wp _ _ _ _ _
          refine cond_false h rfl ?_
          refine wp_skip (wp_seq (wp_region_lit ?_))
          have hnext := guess_dec hU3 hV2 hlu hIg hUlt hcase
          have hdg0 : 0 < dg := Nat.pos_of_ne_zero fun h0 => by subst h0; simp at hnext
          refine gL h (zm rfl (zp (Pure1.cast (v' := .int .u64 ((dg - 1 : Nat) : Int)) (.binOp rfl rfl (fun _ => run_sub _ _ _ _ _)) (by rw [wrap_u64 _ (by omega) (by omega)]; congr 1; omega)) (za rfl (zn (zr (zm rfl (zm rfl (zm rfl (zp (Pure1.cast (v' := .int .i64 ((e + 1 : Nat) : Int)) (.sub rfl rfl) (by show Value.int _ _ = Value.int _ _; congr 1 <;> omega)) (zp (.indexAddr rfl rfl (ix_114 _ _ _ _ _ (by omega))) (zD rfl mm (by simp; omega) Tryz.isAgg23 Tryz.sizeOf23 (read_row 0 (by omega)) (.inr rfl) ?_))))))))))); clear h; intro a w h
          refine gL h (zp (.convert rfl (cv_23_40b _ (wrap_u64 _ (by omega) (by omega)))) (zp (Pure1.cast (v' := .int .u64 ((rest + V.getD (e + 1) 0 : Nat) : Int)) (.binOp rfl rfl (fun _ => run_add _ _ _ _ _)) (by rw [wrap_add64 (by omega)])) (za rfl (zn ?_)))); clear h; intro a w h
          exact ⟨dg - 1, ⟨rest + V.getD (e + 1) 0, guess_next hIg hdg0, by rw [Nat.sub_add_cancel hdg0]; exact hnext, by omega, h.sub sA⟩, by omega⟩
      · skip
        have hr : 4294967296 ≤ rest := by have := of_decide_eq_false hc81; omega
        refine wp_exit ?_
        have hdg := digit_small hIg htop hr
        exact ⟨dg, hdg, guess_end hU3 hV2 (by omega) hvv2 hlv hIg (by omega) (.inl hr), hUd, h.sub sA⟩
    · clear h
      rintro a w ⟨dg, hdg, hend, hUd, h⟩
      refine wp_join (fun a w => ∃ (W3 : List Nat) (dg : Nat), dg < 4294967296 ∧ Wd W3 ∧ W3.length = V.length + 1 ∧ valW W3 + dg * valW V = valW W ∧ valW W3 < valW V ∧ St 175 S w0 [(4, .slice (some ⟨b39, 0, none⟩) M M), (6, .int .i64 (s : Int)), (7, .slice (some ⟨b26, 0, none⟩) Z0.length Z0.length), (8, .slice (some ⟨b29, 0, none⟩) V.length V0.length), (9, .int .i64 (V.length : Int)), (10, .int .i64 (((p.length + 1 : Nat) : Int) - 1)), (12, .int .u64 (dg : Int))] [(b26, .cells (u32s (p ++ W3 ++ hh)).toArray 23 (0, 0)), (b39, .cells (u32s Q).toArray 23 (0, 0))] [Row (some ⟨b29, 0, none⟩) (u32s V)] a w) ?_ ?_
      · skip
        refine gC h (zs (zr (zm rfl (zp (Pure1.cast (v' := .int .i64 ((p.length : Nat) : Int)) (.move rfl) (by show Value.int _ _ = Value.int _ _; congr 1 <;> omega)) (zp (Pure1.cast (v' := .int .i64 ((p.length : Nat) : Int)) (.move rfl) (by show Value.int _ _ = Value.int _ _; congr 1 <;> omega)) (zm rfl (zp (Pure1.cast (v' := .int .i64 ((p.length + V.length : Nat) : Int)) (.add rfl rfl) (by show Value.int _ _ = Value.int _ _; congr 1 <;> omega)) (zp (Pure1.cast (v' := .int .i64 ((p.length + V.length + 1 : Nat) : Int)) (.add rfl rfl) (by show Value.int _ _ = Value.int _ _; congr 1 <;> omega)) (zp (Pure1.cast (v' := .slice (some ⟨b26, p.length, none⟩) (V.length + 1) (Z0.length - p.length)) (.slice rfl (some _) (some _) none rfl rfl rfl (sll_114 _ _ _ _ _ _ (by omega) (by omega) (by omega))) (by rw [Nat.zero_add, show p.length + V.length + 1 - p.length = V.length + 1 by omega])) (zm rfl (zm rfl ?_))))))))))); clear h; intro a w h
        refine wpl_plain (op_callM h hS (vs := [_, _, _]) rfl Tryz.call136 (C_less b26 (Z0.length - p.length) p W hh (some ⟨b29, 0, none⟩) V0.length V dg hWw hV (by omega) hWl hdg (by omega) [(b39, .cells (u32s Q).toArray 23 (0, 0))] [Row (some ⟨b29, 0, none⟩) (u32s V)] List.mem_cons_self) (List.Perm.refl _) (by simp) (by simp) ?_); clear h; rintro v125 σ125 Ψ125 a w ⟨W1, l, hl, rfl, hW1, hW1l, hW1v, rfl, rfl⟩ h
        refine wpList_nil ?_
        change Code.wp _ _ _ _ _
        refine cond_split h rfl (fun hc125 => ?_) (fun hc125 => ?_)
        · skip
          have hl1 : 0 < l := by have := of_decide_eq_true hc125; omega
          have hW1lt := valW_lt hW1
          rw [hW1l] at hW1lt
          have hdg0 : 0 < dg := Nat.pos_of_ne_zero fun e0 => by
            subst e0
            obtain rfl : l = 1 := by omega
            omega
          refine gC h (zs (zr (zm rfl (zp (Pure1.cast (v' := .int .u64 ((dg - 1 : Nat) : Int)) (.binOp rfl rfl (fun _ => run_sub _ _ _ _ _)) (by rw [wrap_u64 _ (by omega) (by omega)]; congr 1; omega)) (za rfl (zn (zs (zr (za rfl (zn (zs (zs (zr (zm rfl (zp (.builtin [_] rfl (len_slice_114 _ _ _)) (zm rfl (zn (zb ?_)))))))))))))))))); clear h; intro a w h
          refine wp_loop_inv (fun (i : Nat) a w => ∃ (W2 : List Nat) (c : Nat), i ≤ V.length ∧ W2.length = V.length + 1 ∧ Wd W2 ∧ c ≤ 1 ∧ valW W2 + 4294967296 ^ i * (c + valW (V.drop i)) = valW W1 + valW V ∧ St 175 S w0 [(4, .slice (some ⟨b39, 0, none⟩) M M), (6, .int .i64 (s : Int)), (7, .slice (some ⟨b26, 0, none⟩) Z0.length Z0.length), (8, .slice (some ⟨b29, 0, none⟩) V.length V0.length), (9, .int .i64 (V.length : Int)), (10, .int .i64 (((p.length + 1 : Nat) : Int) - 1)), (12, .int .u64 ((dg - 1 : Nat) : Int)), (14, .int .u32 (c : Int)), (128, .slice (some ⟨b29, 0, none⟩) V.length V0.length), (129, .int .i64 (V.length : Int)), (130, .int .i64 (i : Int))] [(b26, .cells (u32s (p ++ W2 ++ hh)).toArray 23 (0, 0)), (b39, .cells (u32s Q).toArray 23 (0, 0))] [Row (some ⟨b29, 0, none⟩) (u32s V)] a w) (fun i => V.length - i) (0) (⟨W1, 0, Nat.zero_le _, hW1l, hW1, by decide, by simp, h.sub (subL ⟨rfl, rfl, rfl, rfl, rfl, rfl, rfl, rfl, rfl, rfl, rfl, trivial⟩)⟩) ?_; clear h
          rintro i a w ⟨W2, c, hi, hW2l, hW2, hc, hT2, h⟩
          refine gC h (zs (zr (zp (.lss rfl rfl) (zn (zs ?_))))); clear h; intro a w h
          refine cond_split h rfl (fun hc131 => ?_) (fun hc131 => ?_)
          · skip
            have hi' : i < V.length := by simpa using hc131
            refine gC h (zk (zs (zb (zs (zr (zm rfl (zp (.indexAddr rfl rfl (ix_114 _ _ _ _ _ (by omega))) (zD rfl mm (by simp; omega) Tryz.isAgg23 Tryz.sizeOf23 (read_row 0 (by omega)) (.inr rfl) ?_)))))))); clear h; intro a w h
            refine gL h (za rfl (za rfl (zn (zr (zm rfl (zp (Pure1.cast (v' := .int .i64 ((p.length : Nat) : Int)) (.move rfl) (by show Value.int _ _ = Value.int _ _; congr 1 <;> omega)) (zm rfl (zp (Pure1.cast (v' := .int .i64 ((p.length + i : Nat) : Int)) (.add rfl rfl) (by show Value.int _ _ = Value.int _ _; congr 1 <;> omega)) (zm rfl (zp (Pure1.cast (v' := .int .i64 ((p.length : Nat) : Int)) (.move rfl) (by show Value.int _ _ = Value.int _ _; congr 1 <;> omega)) (zm rfl (zp (Pure1.cast (v' := .int .i64 ((p.length + i : Nat) : Int)) (.add rfl rfl) (by show Value.int _ _ = Value.int _ _; congr 1 <;> omega)) (zp (.indexAddr rfl rfl (ix_114 _ _ _ _ _ (by omega))) (zd rfl mm Tryz.isAgg23 Tryz.sizeOf23 ((read_row 0 (by simp; omega)).trans (by rw [Nat.zero_add, getD_mid _ _ _ _ (by omega)])) ?_)))))))))))))); clear h; intro a w h
            refine gL h (zm rfl (zm rfl (zv [_, _, _] rfl Tryz.call121 (C_Add32 _ _ _ (hW2.getD i) (hV.getD i) hc) (zm rfl (zp (.extract rfl (fun _ => rfl)) (zp (.extract rfl (fun _ => rfl)) (zp (.indexAddr rfl rfl (ix_114 _ _ _ _ _ (by omega))) (zt' rfl rfl ((set_row (p ++ W2 ++ hh) (0 + (p.length + i)) ((W2.getD i 0 + V.getD i 0 + c) % 4294967296)).trans (by rw [Nat.zero_add, set_mid _ _ _ _ _ (by omega)])) uu Tryz.sizeOf23 rfl (by simp; omega) rfl ?_)))))))); clear h; intro a w h
            refine gL h (za rfl (zn (zr (zp (.add rfl rfl) (zm rfl (zn ?_)))))); clear h; intro a w h
            refine ⟨i + 1, ⟨W2.set i ((W2.getD i 0 + V.getD i 0 + c) % 4294967296), _, by omega, by simpa using hW2l, hW2.set _ _ (Nat.mod_lt _ (by decide)), ?_, add_step (by omega) hT2, h.sub (subL ⟨rfl, rfl, rfl, rfl, rfl, rfl, rfl, rfl, rfl, rfl, rfl, trivial⟩)⟩, by omega⟩
            have hz := hW2.getD i
            have hy := hV.getD i
            omega
          · skip
            have hi' : i = V.length := by simp at hc131; omega
            subst hi'
            refine gC h (ze (zr (zm rfl (zp (Pure1.cast (v' := .int .i64 ((p.length : Nat) : Int)) (.move rfl) (by show Value.int _ _ = Value.int _ _; congr 1 <;> omega)) (zm rfl (zp (Pure1.cast (v' := .int .i64 ((p.length + V.length : Nat) : Int)) (.add rfl rfl) (by show Value.int _ _ = Value.int _ _; congr 1 <;> omega)) (zp (.indexAddr rfl rfl (ix_114 _ _ _ _ _ (by omega))) (zd rfl mm Tryz.isAgg23 Tryz.sizeOf23 ((read_row 0 (by simp; omega)).trans (by rw [Nat.zero_add, getD_mid _ _ _ _ (by omega)])) ?_)))))))); clear h; intro a w h
            refine gL h (zm rfl (zp (Pure1.cast (v' := .int .u32 ((((W2.getD V.length 0 + c) % 4294967296) : Nat) : Int)) (.binOp rfl rfl (fun _ => run_add _ _ _ _ _)) (by rw [wrap_u32_mod]; congr 1)) (zp (.indexAddr rfl rfl (ix_114 _ _ _ _ _ (by omega))) (zt' rfl rfl ((set_row (p ++ W2 ++ hh) (0 + (p.length + V.length)) ((W2.getD V.length 0 + c) % 4294967296)).trans (by rw [Nat.zero_add, set_mid _ _ _ _ _ (by omega)])) uu Tryz.sizeOf23 rfl (by simp; omega) rfl ?_)))); clear h; intro a w h
            refine wpList_nil ?_
            have hst := add_step (Z := W2) (Y := V) (i := V.length) (by omega) hT2
            rw [getD_ge (Nat.le_refl V.length), Nat.add_zero, List.drop_eq_nil_of_le (by omega : V.length ≤ V.length + 1)] at hst
            simp only [valW, Nat.add_zero] at hst
            have hW3 : Wd (W2.set V.length ((W2.getD V.length 0 + c) % 4294967296)) := hW2.set _ _ (Nat.mod_lt _ (by decide))
            have hlt3 := valW_lt hW3
            rw [List.length_set, hW2l] at hlt3
            obtain ⟨_, hk1, hk2⟩ := knuth_back hW1v hl hW1lt hend (Nat.le_of_lt (Nat.lt_of_lt_of_le (valW_lt hV) (Nat.pow_le_pow_right (by decide) (Nat.le_succ _)))) hl1 hst hlt3
            exact ⟨_, dg - 1, by omega, hW3, by rw [List.length_set, hW2l], hk1, hk2, h.sub (subL ⟨rfl, rfl, rfl, rfl, rfl, rfl, rfl, trivial⟩)⟩
        · skip
          have hl1 : ¬ 0 < l := by have := of_decide_eq_false hc125; omega
          have hW1lt := valW_lt hW1
          rw [hW1l] at hW1lt
          refine wp_skip ?_
          obtain ⟨hk1, hk2⟩ := knuth_ok hW1v hW1lt hl hUd hl1
          exact ⟨W1, dg, hdg, hW1, hW1l, hk1, hk2, h.sub sA⟩
      · clear h
        clear hdg hend hUd
        rintro a w ⟨W3, dg, hdg, hW3, hW3l, hk1, hk2, h⟩
        refine gC h (zr (zm rfl (zp (Pure1.cast (v' := .int .i64 ((p.length : Nat) : Int)) (.move rfl) (by show Value.int _ _ = Value.int _ _; congr 1 <;> omega)) (zm rfl (zp (Pure1.cast (v' := .int .u32 (dg : Int)) (.convert rfl (cv_40_23 _)) (by rw [wrap_u32n hdg])) (zp (.indexAddr rfl rfl (ix_114 _ _ _ _ _ (by omega))) (zt' rfl rfl ((set_row Q (0 + p.length) dg).trans (by rw [Nat.zero_add])) uu Tryz.sizeOf23 rfl (by simp; omega) rfl ?_))))))); clear h; intro a w h
        refine gL h (zn (zr (zp (Pure1.cast (v' := .int .i64 ((p.length : Nat) : Int)) (.move rfl) (by show Value.int _ _ = Value.int _ _; congr 1 <;> omega)) (zp (.sub rfl rfl) (za rfl (zn ?_)))))); clear h; intro a w h
        exact ⟨p.length, ⟨p ++ W3 ++ hh, Q.set p.length dg, by omega, by simp at hZl ⊢; omega, (hpw.append hW3).append hhw, by simpa using hQl, hQ.set _ _ hdg, long_step (by omega) (by omega) hT hk1, long_rest hh0 hk2, h.sub sA⟩, by omega⟩
  · skip
    have hκ0 : κ = 0 := by simp at hc44; omega
    subst hκ0
    refine gC h (ze (zs (zs (zr (zm rfl (zm rfl (zn (zb ?_)))))))); clear h; intro a w h
    refine wp_loop_inv (fun (i : Nat) a w => ∃ R : List Nat, i ≤ s ∧ Wd R ∧ R.length = Z0.length ∧ valW R = valW Z / 2 ^ i ∧ St 175 S w0 [(4, .slice (some ⟨b39, 0, none⟩) M M), (6, .int .i64 (s : Int)), (7, .slice (some ⟨b26, 0, none⟩) R.length Z0.length), (167, .int .i64 (s : Int)), (168, .int .i64 (i : Int))] [(b26, .cells (u32s R).toArray 23 (0, 0)), (b39, .cells (u32s Q).toArray 23 (0, 0))] [Row (some ⟨b29, 0, none⟩) (u32s V)] a w) (fun i => s - i) (0) (⟨Z, Nat.zero_le _, hZ, hZl, by simp, by rw [hZl]; exact h.sub (subL ⟨rfl, rfl, rfl, rfl, rfl, trivial⟩)⟩) ?_; clear h
    rintro i a w ⟨R, hi, hR, hRl, hRv, h⟩
    refine gC h (zs (zr (zp (.lss rfl rfl) (zn (zs ?_))))); clear h; intro a w h
    refine cond_split h rfl (fun hc169 => ?_) (fun hc169 => ?_)
    · skip
      have hi' : i < s := by simpa using hc169
      refine gC h (zk (zs (zb (zr (zm rfl ?_))))); clear h; intro a w h
      refine wpl_plain (op_callM h hS (vs := [_]) rfl Tryz.call137 (C_half b26 Z0.length R hR (by omega) [(b39, .cells (u32s Q).toArray 23 (0, 0))] [Row (some ⟨b29, 0, none⟩) (u32s V)]) (List.Perm.refl _) (by simp) (by simp) ?_); clear h; rintro v171 σ171 Ψ171 a w ⟨R2, hR2, hR2l, hR2v, rfl, rfl⟩ h
      refine gL h (zn (zr (zp (.add rfl rfl) (zm rfl (zn ?_))))); clear h; intro a w h
      exact ⟨i + 1, ⟨R2, by omega, hR2, by omega, by rw [hR2v, hRv, Nat.div_div_eq_div_mul, ← Nat.pow_succ], by rw [hR2l]; exact h.sub sA⟩, by omega⟩
    · skip
      have hi' : i = s := by simp at hc169; omega
      refine gC h (ze (zs (zr (zm rfl (zm rfl (za rfl (za rfl (zn (zt ?_))))))))); clear h; intro a w h
      subst hi'
      simp only [List.drop_zero, Nat.pow_zero, Nat.one_mul] at hT hR
      obtain ⟨hq, hr⟩ := long_final (hT.trans hZ0v) ‹valW Z < valW V› hVv
      replace h := h.shareAll hS (u32s R) rfl
      replace h := h.shareAll hS (u32s Q) rfl
      rw [← hQl] at h
      refine ret_of (Ψ := [Row (some ⟨b39, 0, none⟩) (u32s Q), Row (some ⟨b26, 0, none⟩) (u32s R)]) h (results2 h rfl (.tmp rfl) (.tmp rfl)) ⟨_, _, _, _, Q, R, rfl, hQ, ‹Wd R›, by omega, by omega, by omega, by omega, hq, by rw [hRv, hr], rfl⟩ (by simp)
end Go.Proofs.YtmajjidkkpkhcaaGreat
