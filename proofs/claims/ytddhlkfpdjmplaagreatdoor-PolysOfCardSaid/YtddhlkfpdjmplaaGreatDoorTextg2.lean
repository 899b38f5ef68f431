/- Written by a program of ours (gen.py) out of short specifications. By an AI agent. -/
import Derived.Test.YtddhlkfpdjmplaaGreatDoorTextg
set_option linter.unusedVariables false
set_option linter.unusedSimpArgs false
set_option maxRecDepth 4000
namespace Go.Proofs.YtddhlkfpdjmplaaGreatDoor
open Go Go.Proofs Go.Fx
attribute [local irreducible] Oper.wp Code.wp wpList Fx.Head wpOp
theorem cv_23_3 (x : Int) (w : World) : (Go.convert 23 3 (.int .u32 x)).run Tryz.prog w = .ok (.int .i64 (IntKind.i64.wrap x)) w := by
  simp [go_sem]
theorem cv_23_3b (x : Int) (h0 : IntKind.i64.wrap x = x) (w : World) : (Go.convert 23 3 (.int .u32 x)).run Tryz.prog w = .ok (.int .i64 x) w := by
  rw [cv_23_3, h0]
theorem joinB_cat : ∀ l : List ByteArray, joinB l ⟨#[]⟩ = ⟨(catB l).toArray⟩ := fun l => by
  have key : ∀ xs : List (List UInt8), Lib.join xs [] = xs.flatten := fun xs => by
    unfold Lib.join
    induction xs with
    | nil => rfl
    | cons x xs ih =>
      rcases xs with _ | ⟨y, ys⟩
      · simp [List.intercalate]
      · rw [List.flatten_cons, ← ih]; simp [List.intercalate]
  unfold joinB
  rw [show (ByteArray.mk #[]).data.toList = [] from rfl, key]
  unfold catB
  rw [List.flatMap_def]
theorem chunk_small {m : Nat} (h : m / 1000000000 = 0) : chunk m = dB (m % 1000000000) := by
  unfold chunk; rw [if_pos h, Nat.mod_eq_of_lt (by omega)]
theorem chunk_full {m : Nat} (h : m / 1000000000 ≠ 0) : zerB (9 - (dB (m % 1000000000)).size) ++ dB (m % 1000000000) = chunk m := by
  unfold chunk
  rw [if_neg h]
  apply ByteArray.ext
  rw [ByteArray.data_append]
  apply Array.ext'
  have h1 := pad_low (r := m % 1000000000) (k := 8) (Nat.mod_lt _ (by decide))
  have h2 : lowD (m % 10 ^ 9) 9 = lowD m 9 := lowD_mod 9 m
  rw [show (10 : Nat) ^ 9 = 1000000000 from rfl] at h2
  rw [h2] at h1
  rw [dB_size]
  show ((List.replicate _ (48 : UInt8)).toArray ++ (Lib.decDigits _).toArray).toList = (lowD m 9).toArray.toList
  simp only [List.toList_toArray, Array.toList_append]
  exact h1
theorem div_step (n i : Nat) : n / 10 ^ (9 * i) / 1000000000 = n / 10 ^ (9 * (i + 1)) := by
  rw [Nat.div_div_eq_div_mul, show 9 * (i + 1) = 9 * i + 9 by omega, Nat.pow_add]
theorem wds_len0 {n : Nat} (h : (wds n).length = 0) : n = 0 := by
  have := wds_bound n
  rw [h] at this; simpa using this
theorem wds_le {m n : Nat} (h : m ≤ n) : (wds m).length ≤ (wds n).length := by
  rcases Nat.lt_or_ge (wds n).length (wds m).length with h1 | h1
  · exact absurd (wds_len_lt h1) (by omega)
  · exact h1
theorem row_pre {b : Nat} {M R : List Value} {X : Nat → Prop} {w : World} (h : (Row (some ⟨b, 0, none⟩) (M ++ R)).p X w) : (Row (some ⟨b, 0, none⟩) M).p X w := by
  have h1 := row_take h M.length
  rwa [List.take_left] at h1
theorem C_JoinL (ad : Option Addr) (c m : Nat) (l : List ByteArray) (hm : m = l.length) (hc : m ≤ c) (hn : m ≤ 1000000) (hM : ∀ x ∈ l, x.size ≤ 9) :
    CtrW Tryz.prog 84 [.slice ad m c, .string ⟨#[]⟩] [Row ad (List.map encs l)] (.string ⟨(catB l).toArray⟩) := by
  subst hm
  rw [← joinB_cat]
  exact C_Join ad c l ⟨#[]⟩ hc hn 9 hM (by show l.length * (9 + 0) ≤ _; omega)
theorem prt_sizeR (n i : Nat) : ∀ x ∈ (prt n i).reverse, x.size ≤ 9 := fun x hx => prt_size n i x (List.mem_reverse.1 hx)
theorem C_NTextG (n : Nat) (hs : (wds n).length ≤ 300000) : CtrW Tryz.prog 119 [encN n] [TabF] (.string (dB n)) := by
  rcases Nat.lt_or_ge n 18446744073709551616 with hsm | hbig
  · exact C_NText2 n hsm
  replace hbig : ¬ n < 18446744073709551616 := by omega
  refine fn_intro Tryz.func119 rfl Tryz.ntmps119 nb ?_
  intro S w0 a hS h
  refine gC h (zs (zr (zx rfl fun b1 => za rfl (zn (zs (zs (zr (zp (.fieldAddr rfl (fa_38_1 _ _)) (zd rfl mr Tryz.isAgg9 Tryz.sizeOf9 (rs_2_1 _ _) ?_))))))))); clear h; intro a w h
  refine gL h (zp (.binOp rfl rfl (fun _ => run_seql _ _ _ _ _)) (zn ?_)); clear h; intro a w h
  change Code.wp _ _ _ _ _
  refine cond_split h rfl (fun hc10 => (by exfalso; exact hbig (bigN_empty.1 (by simpa using hc10)))) (fun hc10 => ?_)
  refine gC h (zk (zs (zr (za rfl (zn (zs (zs (zr (zd rfl mr Tryz.isAgg38 Tryz.sizeOf38 (rd_2_0_2 _ _) ?_))))))))); clear h; intro a w h
  refine gL h (zf [_] rfl Tryz.call166 (C_words n (by omega)) ?_); clear h; rintro v15 Ψ15 ⟨ad15, c15, rfl, hc15, rfl⟩ a w h
  have hw0 : wds n = wds (n / 10 ^ (9 * 0)) := by rw [Nat.mul_zero, Nat.pow_zero, Nat.div_one]
  rw [hw0] at h hc15
  refine gL h (za rfl (zn (zb ?_))); clear h; intro a w h
  refine wp_loop_inv (fun (i : Nat) a w => ∃ (adl : Option Addr) (cl : Nat) (ad1 : Option Addr) (c1 : Nat) (o1 : List (Nat × Obj)), ((wds (n / 10 ^ (9 * i))).length ≤ cl ∧ (i = 0 ∨ n / 10 ^ (9 * (i - 1)) ≠ 0) ∧ GrowO 1 9 (.slice ad1 (prt n i).length c1) (prt n i).length (List.map encs (prt n i)) o1) ∧ St 46 S w0 [(2, .string (⟨#[]⟩)), (3, (.slice ad1 (prt n i).length c1)), (4, .slice adl ((wds (n / 10 ^ (9 * i))).length) cl), (15, .slice ad15 ((wds (n / 10 ^ (9 * 0))).length) c15)] (o1 ++ ((b1, .cells (Value.cells (encN (n))) 38 (0, 0)) :: [])) [Row adl (u32s (wds (n / 10 ^ (9 * i)))), TabF] a w) (fun i => n / 10 ^ (9 * i)) (0) (⟨ad15, c15, none, 0, [], ⟨hc15, .inl rfl, GrowO.nil _ _⟩, by exact (h.factsSub (by simp)).sub (subL ⟨rfl, rfl, rfl, rfl, trivial⟩)⟩) ?_; clear h
  rintro i a w ⟨adl, cl, ad1, c1, o1, ⟨hlc, hp, hG1⟩, h⟩
  refine gC h (zs (zs (zr (zm rfl (zp (.builtin [_] rfl (len_slice_217 _ _ _)) (zp (.gtr rfl rfl) (zn ?_))))))); clear h; intro a w h
  change Code.wp _ _ _ _ _
  refine cond_split h rfl (fun hc18 => ?_) (fun hc18 => ?_)
  · skip
    have hm0 : (n / 10 ^ (9 * i)) ≠ 0 := fun e => by rw [e, wds_zero] at hc18; exact absurd hc18 (by decide)
    have hif := prt_few hm0
    have hwl : (wds (n / 10 ^ (9 * i))).length ≤ (wds n).length := wds_le (Nat.div_le_self _ _)
    have hpl := prt_len n i
    refine gC h (zk (zb (zs (zr (zm rfl ?_))))); clear h; intro a w h
    refine wpl_plain (op_callO h (vs := [_, _]) rfl Tryz.call167 (C_short adl cl (wds (n / 10 ^ (9 * i))) 1000000000 (Wd.wds _) (by omega) (by decide) (by decide)) (by simp) (by decide) ?_); clear h; rintro v21 σ21 a w ⟨b21, Q21, rfl, hQw, hQl, hQv, rfl⟩ h
    rw [valW_wds] at h hQv
    rw [div_step] at hQv
    replace h := h.shareAll hS (u32s Q21) rfl
    have hr9 := Nat.mod_lt (n / 10 ^ (9 * i)) (show 0 < 1000000000 by decide)
    have hr8 : (dB (n / 10 ^ (9 * i) % 1000000000)).size ≤ 9 := by rw [dB_size]; exact nDigits_le (k := 8) hr9
    refine gL h (zm rfl (zp (.extract rfl (fun _ => rfl)) (zp (.extract rfl (fun _ => rfl)) (za rfl (za rfl (zn (zs (zr (zm rfl (zf [_] rfl Tryz.call168 (C_cut _ _ Q21 hQw (Nat.le_refl _) (by omega)) ?_)))))))))); clear h; rintro v25 Ψ25 ⟨rfl, rfl⟩ a w h
    rw [hQv] at h
    have hcl1 : (wds (n / 10 ^ (9 * (i + 1)))).length ≤ Q21.length := by rw [hQl]; exact wds_le (by rw [← div_step]; exact Nat.div_le_self _ _)
    refine gL h (za rfl (zn (zs (zr (zm rfl (zp (.convert rfl (cv_23_3b _ (wrap_i64 _ (by omega) (by omega)))) (zw [_] rfl Tryz.call149 (C_ItoaG (n / 10 ^ (9 * i) % 1000000000) (by omega)) (za rfl (zn (zs (zs (zr (zm rfl (zp (.builtin [_] rfl (len_slice_217 _ _ _)) (zp (.gtr rfl rfl) (zn ?_)))))))))))))))); clear h; intro a w h
    change Code.wp _ _ _ _ _
    refine cond_split h rfl (fun hc31 => ?_) (fun hc31 => ?_)
    · skip
      have hq1 : (n / 10 ^ (9 * (i + 1))) ≠ 0 := fun e => by rw [e, wds_zero] at hc31; exact absurd hc31 (by decide)
      refine gC h (zr (zm rfl (zp (.builtin [_] rfl (len_string_9 _)) (zp (Pure1.cast (v' := (.int .i64 ((9 - ((dB (n / 10 ^ (9 * i) % 1000000000)).size) : Nat) : Int))) (.sub rfl rfl) (by show Value.int _ _ = Value.int _ _; congr 1; omega)) (zv [_, _] rfl Tryz.call169 (C_Repeat (9 - (dB (n / 10 ^ (9 * i) % 1000000000)).size) (by omega)) (zm rfl (zp (.binOp rfl rfl (fun _ => run_sadd _ _ _ _ _ (by rw [zerB_size]; omega))) ?_))))))); clear h; intro a w h
      rw [chunk_full (by rw [div_step]; exact hq1)] at h
      refine gL h (za rfl (zn (zr (zm rfl (zm rfl (zB [(_, _)] rfl (bs_132_1_0 _) fun b40 => ?_)))))); clear h; intro a w h
      refine wpl_plain (op_appendO (σr := [(b1, .cells (Value.cells (encN (n))) 38 (0, 0))]) h rfl rfl (List.Perm.trans (List.Perm.refl _) (List.Perm.cons _ (List.Perm.refl _))) hG1 Tryz.runUnderlying132 Tryz.runUnderlying132 Tryz.typeInfo9 Tryz.sizeOf9 Tryz.zeroValue9 rfl (by decide) (by decide) rfl rfl (by decide) (by show 16 * (2 * ((prt n i).length + 1) + 192) ≤ 281474976710656; omega) (by decide) ?_); clear h
      intro v41 o41 a w hG41 h
      obtain ⟨ad41, c41, rfl⟩ := hG41.is
      have hLn41 : (prt n i).length + 1 = ((prt n i) ++ [chunk (n / 10 ^ (9 * i))]).length := by simp only [List.length_append, List.length_cons, List.length_nil, Nat.zero_add]
      rw [hLn41] at h hG41
      replace hG41 : GrowO 1 9 (.slice ad41 ((prt n i) ++ [chunk (n / 10 ^ (9 * i))]).length c41) ((prt n i) ++ [chunk (n / 10 ^ (9 * i))]).length (List.map encs ((prt n i) ++ [chunk (n / 10 ^ (9 * i))])) o41 := by rw [List.map_append]; exact hG41
      refine gL h (za rfl (zn ?_)); clear h; intro a w h
      exact ⟨i + 1, ⟨_, _, ad41, c41, o41, ⟨hcl1, .inr hm0, hG41⟩, by exact (h.factsSub (by simp)).sub (subL ⟨rfl, rfl, rfl, rfl, trivial⟩)⟩, by rw [← div_step]; exact Nat.div_lt_self (Nat.pos_of_ne_zero hm0) (by decide)⟩
    · skip
      have hq1 : (n / 10 ^ (9 * i)) / 1000000000 = 0 := by rw [div_step]; exact wds_len0 (by have := of_decide_eq_false hc31; omega)
      rw [← chunk_small hq1] at h
      refine gC h (zk (zr (zm rfl (zm rfl (zB [(_, _)] rfl (bs_132_1_0 _) fun b40 => ?_))))); clear h; intro a w h
      refine wpl_plain (op_appendO (σr := [(b1, .cells (Value.cells (encN (n))) 38 (0, 0))]) h rfl rfl (List.Perm.trans (List.Perm.refl _) (List.Perm.cons _ (List.Perm.refl _))) hG1 Tryz.runUnderlying132 Tryz.runUnderlying132 Tryz.typeInfo9 Tryz.sizeOf9 Tryz.zeroValue9 rfl (by decide) (by decide) rfl rfl (by decide) (by show 16 * (2 * ((prt n i).length + 1) + 192) ≤ 281474976710656; omega) (by decide) ?_); clear h
      intro v41 o41 a w hG41 h
      obtain ⟨ad41, c41, rfl⟩ := hG41.is
      have hLn41 : (prt n i).length + 1 = ((prt n i) ++ [chunk (n / 10 ^ (9 * i))]).length := by simp only [List.length_append, List.length_cons, List.length_nil, Nat.zero_add]
      rw [hLn41] at h hG41
      replace hG41 : GrowO 1 9 (.slice ad41 ((prt n i) ++ [chunk (n / 10 ^ (9 * i))]).length c41) ((prt n i) ++ [chunk (n / 10 ^ (9 * i))]).length (List.map encs ((prt n i) ++ [chunk (n / 10 ^ (9 * i))])) o41 := by rw [List.map_append]; exact hG41
      refine gL h (za rfl (zn ?_)); clear h; intro a w h
      exact ⟨i + 1, ⟨_, _, ad41, c41, o41, ⟨hcl1, .inr hm0, hG41⟩, by exact (h.factsSub (by simp)).sub (subL ⟨rfl, rfl, rfl, rfl, trivial⟩)⟩, by rw [← div_step]; exact Nat.div_lt_self (Nat.pos_of_ne_zero hm0) (by decide)⟩
  · skip
    have hz0 : (n / 10 ^ (9 * i)) = 0 := wds_len0 (by have := of_decide_eq_false hc18; omega)
    have hi0 : i ≠ 0 := fun e => by subst e; rw [Nat.mul_zero, Nat.pow_zero, Nat.div_one] at hz0; omega
    obtain ⟨j, hij⟩ : ∃ j, i = j + 1 := ⟨i - 1, by omega⟩
    have hj := hp.resolve_left hi0
    have hjf := prt_few hj
    have hpl := prt_len n i
    have hcat : catB (prt n i).reverse = Lib.decDigits n := by
      rw [hij, Nat.add_sub_cancel] at hj
      rw [hij] at hz0 ⊢
      exact cat_all hj hz0
    refine gC h (ze (zs (zr (zm rfl ?_)))); clear h; intro a w h
    obtain ⟨bp, Rp, rfl, rfl, hRp, hcp⟩ := hG1.open (by rw [prt_len]; omega)
    rw [List.cons_append, List.nil_append] at h
    refine wpl_plain (op_callM h hS (vs := [_]) rfl Tryz.call170 (C_Reverse bp c1 (prt n i) Rp (by omega) [(b1, _)] [Row adl (u32s (wds (n / 10 ^ (9 * i)))), TabF]) (List.Perm.refl _) (by simp) (by simp) ?_); clear h; rintro v43 σ43 Ψ43 a w ⟨rfl, rfl, rfl⟩ h
    replace h := h.shareAll hS (List.map encs (prt n i).reverse ++ Rp) rfl
    replace h := h.derive (R := Row (some ⟨bp, 0, none⟩) (List.map encs (prt n i).reverse)) (fun X hX => row_pre (hX _ List.mem_cons_self))
    refine gL h (zn (zs (zr (zm rfl (zw [_, _] rfl Tryz.call84 (C_JoinL (some ⟨bp, 0, none⟩) c1 (prt n i).length (prt n i).reverse (by rw [List.length_reverse]) hG1.cap (by omega) (prt_sizeR n i)) (za rfl (zn (zt ?_)))))))); clear h; intro a w h
    refine retV h (results1 h rfl (.tmp rfl)) ?_
    rw [hcat]; rfl
theorem txtZ_sizeW (z : Int) : (txtZ z).size ≤ 10 * lenZ z + 2 := by
  unfold txtZ lenZ; have h1 := dB_sizeW z.natAbs; have h2 := size1 45
  split
  · rw [ByteArray.size_append]; omega
  · omega
theorem txtQ_sizeW (x : Rat) {K : Nat} (h : lenQ x ≤ K) : (txtQ x).size ≤ 20 * K + 10 := by
  obtain ⟨h1, h2⟩ := lenQ_le h
  have h3 := txtZ_sizeW x.num
  have h4 := dB_sizeW x.den
  have h5 := size1 47
  unfold txtQ
  split
  · omega
  · rw [ByteArray.size_append, ByteArray.size_append]; omega
theorem C_ZTextG (z : Int) (hz : lenZ z ≤ 300000) : CtrW Tryz.prog 118 [encZ z] [TabF] (.string (txtZ z)) := by
  have hz2 : (wds z.natAbs).length ≤ 300000 := hz
  refine fn_intro Tryz.func118 rfl Tryz.ntmps118 nb ?_
  intro S w0 a hS h
  refine gC h (zs (zr (zx rfl fun b1 => za rfl (zn (zs (zs (zr (zp (.fieldAddr rfl (fa_42_1 _ _)) (zd rfl mr Tryz.isAgg4 Tryz.sizeOf4 (rs_3_2 _ _ _) ?_))))))))); clear h; intro a w h
  refine wpList_nil ?_
  change Code.wp _ _ _ _ _
  refine cond_split h rfl (fun hc4 => ?_) (fun hc4 => ?_)
  · skip
    have hn : z < 0 := of_decide_eq_true hc4
    refine gC h (zs (zr (zp (.fieldAddr rfl (fa_42_0 _ _)) (zp (.fieldAddr rfl (fa_40_0 _ _)) (zd rfl mr Tryz.isAgg38 Tryz.sizeOf38 (rd_3_0_2 _ _ _) ?_))))); clear h; intro a w h
    refine gL h (zw [_] rfl Tryz.call119 (C_NTextG z.natAbs hz2) (zp (.binOp rfl rfl (fun _ => run_sadd _ _ _ _ _ (by have := dB_sizeW z.natAbs; have h1 := size1 45; omega))) (za rfl (zn (zt ?_))))); clear h; intro a w h
    refine retV h (results1 h rfl (.tmp rfl)) ?_
    unfold txtZ; rw [if_pos hn]
  · skip
    have hn : ¬ z < 0 := of_decide_eq_false hc4
    refine gC h (zk (zs (zr (zp (.fieldAddr rfl (fa_42_0 _ _)) (zp (.fieldAddr rfl (fa_40_0 _ _)) (zd rfl mr Tryz.isAgg38 Tryz.sizeOf38 (rd_3_0_2 _ _ _) ?_)))))); clear h; intro a w h
    refine gL h (zw [_] rfl Tryz.call119 (C_NTextG z.natAbs hz2) (za rfl (zn (zt ?_)))); clear h; intro a w h
    refine retV h (results1 h rfl (.tmp rfl)) ?_
    unfold txtZ; rw [if_neg hn]
theorem C_QTextG (x : Rat) (hx : lenQ x ≤ 300000) : CtrW Tryz.prog 55 [encQ x] [TabF] (.string (txtQ x)) := by
  obtain ⟨hq1, hq2⟩ := lenQ_le hx
  have hs1 := txtZ_sizeW x.num
  have hs2 := dB_sizeW x.den
  refine fn_intro Tryz.func55 rfl Tryz.ntmps55 nb ?_
  intro S w0 a hS h
  refine gC h (zs (zr (zx rfl fun b1 => za rfl (zn (zs (zs (zr (zd rfl mr Tryz.isAgg44 Tryz.sizeOf44 (rd_5_0_5 _ _ _ _ _) ?_)))))))); clear h; intro a w h
  refine gL h (zv [_] rfl Tryz.call117 (C_Whole x) (zn ?_)); clear h; intro a w h
  change Code.wp _ _ _ _ _
  refine cond_split h rfl (fun hc4 => ?_) (fun hc4 => ?_)
  · skip
    have hw : x.den = 1 := of_decide_eq_true hc4
    refine gC h (zs (zr (zp (.fieldAddr rfl (fa_44_0 _ _)) (zd rfl mr Tryz.isAgg42 Tryz.sizeOf42 (rd_5_0_3 _ _ _ _ _) ?_)))); clear h; intro a w h
    refine gL h (zw [_] rfl Tryz.call118 (C_ZTextG x.num hq1) (za rfl (zn (zt ?_)))); clear h; intro a w h
    refine retV h (results1 h rfl (.tmp rfl)) ?_
    unfold txtQ; rw [if_pos hw]
  · skip
    have hw : ¬ x.den = 1 := of_decide_eq_false hc4
    refine gC h (zk (zs (yD mixed_YtddhlkfpdjmplaaGreatDoor [0, 1, 4, 2, 3, 5, 6, 7, 8] (floatsOK_none (by kernel_rfl)) (yp rfl (.fieldAddr rfl (fa_44_0 _ _)) (yd rfl rfl mr Tryz.isAgg42 Tryz.sizeOf42 (rd_5_0_3 _ _ _ _ _) ?_))))); clear h
    refine yd rfl rfl mr Tryz.isAgg44 Tryz.sizeOf44 (rd_5_0_5 _ _ _ _ _) ?_
    refine yw [_] rfl rfl Tryz.call118 (C_ZTextG x.num hq1) (yp rfl (.binOp rfl rfl (fun _ => run_sadd _ _ _ _ _ (by have h1 := size1 47; omega))) (yv [_] rfl rfl Tryz.call120 (C_den x (by omega)) (yw [_] rfl rfl Tryz.call119 (C_NTextG x.den hq2) (yp rfl (.binOp rfl rfl (fun _ => run_sadd _ _ _ _ _ (by have h1 := size1 47; rw [ByteArray.size_append]; omega))) (yp rfl (.assign rfl) (yn (zt ?_))))))); intro a w h
    refine retV h (results1 h rfl (.tmp rfl)) ?_
    unfold txtQ; rw [if_neg hw]
end Go.Proofs.YtddhlkfpdjmplaaGreatDoor
