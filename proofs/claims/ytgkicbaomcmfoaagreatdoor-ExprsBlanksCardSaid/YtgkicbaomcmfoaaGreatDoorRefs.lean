/- Written by a program of ours (gen.py) out of short specifications. By an AI agent. -/
import Derived.Test.YtgkicbaomcmfoaaGreatDoorTextg
set_option linter.unusedVariables false
set_option linter.unusedSimpArgs false
set_option maxRecDepth 4000
namespace Go.Proofs.YtgkicbaomcmfoaaGreatDoor
open Go Go.Proofs Go.Fx
attribute [local irreducible] Oper.wp Code.wp wpList Fx.Head wpOp
section
theorem cv_54_3 (x : Int) (w : World) : (Go.convert 54 3 (.int .u32 x)).run Tryz.prog w = .ok (.int .i64 (IntKind.i64.wrap x)) w := by
  simp [go_sem]
theorem cv_54_3b (x : Int) (h0 : IntKind.i64.wrap x = x) (w : World) : (Go.convert 54 3 (.int .u32 x)).run Tryz.prog w = .ok (.int .i64 x) w := by
  rw [cv_54_3, h0]
theorem joinB_cat : ∀ l : List ByteArray, joinB l ⟨#[]⟩ = ⟨(catB l).toArray⟩ := fun l => by
  have key : ∀ xs : List (List UInt8), Lib.join xs [] = xs.flatten := fun xs => by
    unfold Lib.join
    induction xs with
    | nil => rfl
    | cons x xs ih =>
      rcases xs with _ | ⟨y, ys⟩
      · simp [List.intercalate]
      · rw [List.flatten_cons, ← ih]; simp [List.intercalate]
  unfold joinB
  rw [show (ByteArray.mk #[]).data.toList = [] from rfl, key]
  unfold catB
  rw [List.flatMap_def]
theorem chunk_small {m : Nat} (h : m / 1000000000 = 0) : chunk m = dB (m % 1000000000) := by
  unfold chunk; rw [if_pos h, Nat.mod_eq_of_lt (by omega)]
theorem chunk_full {m : Nat} (h : m / 1000000000 ≠ 0) : zerB (9 - (dB (m % 1000000000)).size) ++ dB (m % 1000000000) = chunk m := by
  unfold chunk
  rw [if_neg h]
  apply ByteArray.ext
  rw [ByteArray.data_append]
  apply Array.ext'
  have h1 := pad_low (r := m % 1000000000) (k := 8) (Nat.mod_lt _ (by decide))
  have h2 : lowD (m % 10 ^ 9) 9 = lowD m 9 := lowD_mod 9 m
  rw [show (10 : Nat) ^ 9 = 1000000000 from rfl] at h2
  rw [h2] at h1
  rw [dB_size]
  show ((List.replicate _ (48 : UInt8)).toArray ++ (Lib.decDigits _).toArray).toList = (lowD m 9).toArray.toList
  simp only [List.toList_toArray, Array.toList_append]
  exact h1
theorem div_step (n i : Nat) : n / 10 ^ (9 * i) / 1000000000 = n / 10 ^ (9 * (i + 1)) := by
  rw [Nat.div_div_eq_div_mul, show 9 * (i + 1) = 9 * i + 9 by omega, Nat.pow_add]
theorem wds_len0 {n : Nat} (h : (wds n).length = 0) : n = 0 := by
  have := wds_bound n
  rw [h] at this; simpa using this
theorem wds_le {m n : Nat} (h : m ≤ n) : (wds m).length ≤ (wds n).length := by
  rcases Nat.lt_or_ge (wds n).length (wds m).length with h1 | h1
  · exact absurd (wds_len_lt h1) (by omega)
  · exact h1
theorem row_pre {b : Nat} {M R : List Value} {X : Nat → Prop} {w : World} (h : (Row (some ⟨b, 0, none⟩) (M ++ R)).p X w) : (Row (some ⟨b, 0, none⟩) M).p X w := by
  have h1 := row_take h M.length
  rwa [List.take_left] at h1
theorem C_JoinL (ad : Option Addr) (c m : Nat) (l : List ByteArray) (hm : m = l.length) (hc : m ≤ c) (hn : m ≤ 1000000) (hM : ∀ x ∈ l, x.size ≤ 9) :
    CtrW Tryz.prog 45 [.slice ad m c, .string ⟨#[]⟩] [Row ad (List.map encs l)] (.string ⟨(catB l).toArray⟩) := by
  subst hm
  rw [← joinB_cat]
  exact C_Join ad c l ⟨#[]⟩ hc hn 9 hM (by show l.length * (9 + 0) ≤ _; omega)
theorem prt_sizeR (n i : Nat) : ∀ x ∈ (prt n i).reverse, x.size ≤ 9 := fun x hx => prt_size n i x (List.mem_reverse.1 hx)
theorem C_NTextG (n : Nat) (hs : (wds n).length ≤ 300000) : CtrW Tryz.prog 56 [encN n] [TabF] (.string (dB n)) := by
  rcases Nat.lt_or_ge n 18446744073709551616 with hsm | hbig
  · exact C_NText2 n hsm
  replace hbig : ¬ n < 18446744073709551616 := by omega
  refine fn_intro Tryz.func56 rfl Tryz.ntmps56 nb ?_
  intro S w0 a hS h
  refine gC h (zs (zr (zx rfl fun b1 => za rfl (zn (zs (zs (zr (zp (.fieldAddr rfl (fa_47_1 _ _)) (zd rfl mr Tryz.isAgg9 Tryz.sizeOf9 (rs_2_1 _ _) ?_))))))))); clear h; intro a w h
  refine gL h (zp (.binOp rfl rfl (fun _ => run_seql _ _ _ _ _)) (zn ?_)); clear h; intro a w h
  change Code.wp _ _ _ _ _
  refine cond_split h rfl (fun hc10 => (by exfalso; exact hbig (bigN_empty.1 (by simpa using hc10)))) (fun hc10 => ?_)
  refine gC h (zk (zs (zr (za rfl (zn (zs (zs (zr (zd rfl mr Tryz.isAgg47 Tryz.sizeOf47 (rd_2_0_2 _ _) ?_))))))))); clear h; intro a w h
  refine gL h (zf [_] rfl Tryz.call92 (C_words n (by omega)) ?_); clear h; rintro v15 Ψ15 ⟨ad15, c15, rfl, hc15, rfl⟩ a w h
  have hw0 : wds n = wds (n / 10 ^ (9 * 0)) := by rw [Nat.mul_zero, Nat.pow_zero, Nat.div_one]
  rw [hw0] at h hc15
  refine gL h (za rfl (zn (zb ?_))); clear h; intro a w h
  refine wp_loop_inv (fun (i : Nat) a w => ∃ (adl : Option Addr) (cl : Nat) (ad1 : Option Addr) (c1 : Nat) (o1 : List (Nat × Obj)), ((wds (n / 10 ^ (9 * i))).length ≤ cl ∧ (i = 0 ∨ n / 10 ^ (9 * (i - 1)) ≠ 0) ∧ GrowO 1 9 (.slice ad1 (prt n i).length c1) (prt n i).length (List.map encs (prt n i)) o1) ∧ St 46 S w0 [(2, .string (⟨#[]⟩)), (3, (.slice ad1 (prt n i).length c1)), (4, .slice adl ((wds (n / 10 ^ (9 * i))).length) cl), (15, .slice ad15 ((wds (n / 10 ^ (9 * 0))).length) c15)] (o1 ++ ((b1, .cells (Value.cells (encN (n))) 47 (0, 0)) :: [])) [Row adl (u32s (wds (n / 10 ^ (9 * i)))), TabF] a w) (fun i => n / 10 ^ (9 * i)) (0) (⟨ad15, c15, none, 0, [], ⟨hc15, .inl rfl, GrowO.nil _ _⟩, by exact (h.factsSub (by simp)).sub (subL ⟨rfl, rfl, rfl, rfl, trivial⟩)⟩) ?_; clear h
  rintro i a w ⟨adl, cl, ad1, c1, o1, ⟨hlc, hp, hG1⟩, h⟩
  refine gC h (zs (zs (zr (zm rfl (zp (.builtin [_] rfl (len_slice_151 _ _ _)) (zp (.gtr rfl rfl) (zn ?_))))))); clear h; intro a w h
  change Code.wp _ _ _ _ _
  refine cond_split h rfl (fun hc18 => ?_) (fun hc18 => ?_)
  · skip
    have hm0 : (n / 10 ^ (9 * i)) ≠ 0 := fun e => by rw [e, wds_zero] at hc18; exact absurd hc18 (by decide)
    have hif := prt_few hm0
    have hwl : (wds (n / 10 ^ (9 * i))).length ≤ (wds n).length := wds_le (Nat.div_le_self _ _)
    have hpl := prt_len n i
    refine gC h (zk (zb (zs (zr (zm rfl ?_))))); clear h; intro a w h
    refine wpl_plain (op_callO h (vs := [_, _]) rfl Tryz.call93 (C_short adl cl (wds (n / 10 ^ (9 * i))) 1000000000 (Wd.wds _) (by omega) (by decide) (by decide)) (by simp) (by decide) ?_); clear h; rintro v21 σ21 a w ⟨b21, Q21, rfl, hQw, hQl, hQv, rfl⟩ h
    rw [valW_wds] at h hQv
    rw [div_step] at hQv
    replace h := h.shareAll hS (u32s Q21) rfl
    have hr9 := Nat.mod_lt (n / 10 ^ (9 * i)) (show 0 < 1000000000 by decide)
    have hr8 : (dB (n / 10 ^ (9 * i) % 1000000000)).size ≤ 9 := by rw [dB_size]; exact nDigits_le (k := 8) hr9
    refine gL h (zm rfl (zp (.extract rfl (fun _ => rfl)) (zp (.extract rfl (fun _ => rfl)) (za rfl (za rfl (zn (zs (zr (zm rfl (zf [_] rfl Tryz.call94 (C_cut _ _ Q21 hQw (Nat.le_refl _) (by omega)) ?_)))))))))); clear h; rintro v25 Ψ25 ⟨rfl, rfl⟩ a w h
    rw [hQv] at h
    have hcl1 : (wds (n / 10 ^ (9 * (i + 1)))).length ≤ Q21.length := by rw [hQl]; exact wds_le (by rw [← div_step]; exact Nat.div_le_self _ _)
    refine gL h (za rfl (zn (zs (zr (zm rfl (zp (.convert rfl (cv_54_3b _ (wrap_i64 _ (by omega) (by omega)))) (zw [_] rfl Tryz.call80 (C_ItoaG (n / 10 ^ (9 * i) % 1000000000) (by omega)) (za rfl (zn (zs (zs (zr (zm rfl (zp (.builtin [_] rfl (len_slice_151 _ _ _)) (zp (.gtr rfl rfl) (zn ?_)))))))))))))))); clear h; intro a w h
    change Code.wp _ _ _ _ _
    refine cond_split h rfl (fun hc31 => ?_) (fun hc31 => ?_)
    · skip
      have hq1 : (n / 10 ^ (9 * (i + 1))) ≠ 0 := fun e => by rw [e, wds_zero] at hc31; exact absurd hc31 (by decide)
      refine gC h (zr (zm rfl (zp (.builtin [_] rfl (len_string_9 _)) (zp (Pure1.cast (v' := (.int .i64 ((9 - ((dB (n / 10 ^ (9 * i) % 1000000000)).size) : Nat) : Int))) (.sub rfl rfl) (by show Value.int _ _ = Value.int _ _; congr 1; omega)) (zv [_, _] rfl Tryz.call95 (C_Repeat (9 - (dB (n / 10 ^ (9 * i) % 1000000000)).size) (by omega)) (zm rfl (zp (.binOp rfl rfl (fun _ => run_sadd _ _ _ _ _ (by rw [zerB_size]; omega))) ?_))))))); clear h; intro a w h
      rw [chunk_full (by rw [div_step]; exact hq1)] at h
      refine gL h (za rfl (zn (zr (zm rfl (zm rfl (zB [(_, _)] rfl (bs_87_1_0 _) fun b40 => ?_)))))); clear h; intro a w h
      refine wpl_plain (op_appendO (σr := [(b1, .cells (Value.cells (encN (n))) 47 (0, 0))]) h rfl rfl (List.Perm.trans (List.Perm.refl _) (List.Perm.cons _ (List.Perm.refl _))) hG1 Tryz.runUnderlying87 Tryz.runUnderlying87 Tryz.typeInfo9 Tryz.sizeOf9 Tryz.zeroValue9 rfl (by decide) (by decide) rfl rfl (by decide) (by show 16 * (2 * ((prt n i).length + 1) + 192) ≤ 281474976710656; omega) (by decide) ?_); clear h
      intro v41 o41 a w hG41 h
      obtain ⟨ad41, c41, rfl⟩ := hG41.is
      have hLn41 : (prt n i).length + 1 = ((prt n i) ++ [chunk (n / 10 ^ (9 * i))]).length := by simp only [List.length_append, List.length_cons, List.length_nil, Nat.zero_add]
      rw [hLn41] at h hG41
      replace hG41 : GrowO 1 9 (.slice ad41 ((prt n i) ++ [chunk (n / 10 ^ (9 * i))]).length c41) ((prt n i) ++ [chunk (n / 10 ^ (9 * i))]).length (List.map encs ((prt n i) ++ [chunk (n / 10 ^ (9 * i))])) o41 := by rw [List.map_append]; exact hG41
      refine gL h (za rfl (zn ?_)); clear h; intro a w h
      exact ⟨i + 1, ⟨_, _, ad41, c41, o41, ⟨hcl1, .inr hm0, hG41⟩, by exact (h.factsSub (by simp)).sub (subL ⟨rfl, rfl, rfl, rfl, trivial⟩)⟩, by rw [← div_step]; exact Nat.div_lt_self (Nat.pos_of_ne_zero hm0) (by decide)⟩
    · skip
      have hq1 : (n / 10 ^ (9 * i)) / 1000000000 = 0 := by rw [div_step]; exact wds_len0 (by have := of_decide_eq_false hc31; omega)
      rw [← chunk_small hq1] at h
      refine gC h (zk (zr (zm rfl (zm rfl (zB [(_, _)] rfl (bs_87_1_0 _) fun b40 => ?_))))); clear h; intro a w h
      refine wpl_plain (op_appendO (σr := [(b1, .cells (Value.cells (encN (n))) 47 (0, 0))]) h rfl rfl (List.Perm.trans (List.Perm.refl _) (List.Perm.cons _ (List.Perm.refl _))) hG1 Tryz.runUnderlying87 Tryz.runUnderlying87 Tryz.typeInfo9 Tryz.sizeOf9 Tryz.zeroValue9 rfl (by decide) (by decide) rfl rfl (by decide) (by show 16 * (2 * ((prt n i).length + 1) + 192) ≤ 281474976710656; omega) (by decide) ?_); clear h
      intro v41 o41 a w hG41 h
      obtain ⟨ad41, c41, rfl⟩ := hG41.is
      have hLn41 : (prt n i).length + 1 = ((prt n i) ++ [chunk (n / 10 ^ (9 * i))]).length := by simp only [List.length_append, List.length_cons, List.length_nil, Nat.zero_add]
      rw [hLn41] at h hG41
      replace hG41 : GrowO 1 9 (.slice ad41 ((prt n i) ++ [chunk (n / 10 ^ (9 * i))]).length c41) ((prt n i) ++ [chunk (n / 10 ^ (9 * i))]).length (List.map encs ((prt n i) ++ [chunk (n / 10 ^ (9 * i))])) o41 := by rw [List.map_append]; exact hG41
      refine gL h (za rfl (zn ?_)); clear h; intro a w h
      exact ⟨i + 1, ⟨_, _, ad41, c41, o41, ⟨hcl1, .inr hm0, hG41⟩, by exact (h.factsSub (by simp)).sub (subL ⟨rfl, rfl, rfl, rfl, trivial⟩)⟩, by rw [← div_step]; exact Nat.div_lt_self (Nat.pos_of_ne_zero hm0) (by decide)⟩
  · skip
    have hz0 : (n / 10 ^ (9 * i)) = 0 := wds_len0 (by have := of_decide_eq_false hc18; omega)
    have hi0 : i ≠ 0 := fun e => by subst e; rw [Nat.mul_zero, Nat.pow_zero, Nat.div_one] at hz0; omega
    obtain ⟨j, hij⟩ : ∃ j, i = j + 1 := ⟨i - 1, by omega⟩
    have hj := hp.resolve_left hi0
    have hjf := prt_few hj
    have hpl := prt_len n i
    have hcat : catB (prt n i).reverse = Lib.decDigits n := by
      rw [hij, Nat.add_sub_cancel] at hj
      rw [hij] at hz0 ⊢
      exact cat_all hj hz0
    refine gC h (ze (zs (zr (zm rfl ?_)))); clear h; intro a w h
    obtain ⟨bp, Rp, rfl, rfl, hRp, hcp⟩ := hG1.open (by rw [prt_len]; omega)
    rw [List.cons_append, List.nil_append] at h
    refine wpl_plain (op_callM h hS (vs := [_]) rfl Tryz.call96 (C_Reverse bp c1 (prt n i) Rp (by omega) [(b1, _)] [Row adl (u32s (wds (n / 10 ^ (9 * i)))), TabF]) (List.Perm.refl _) (by simp) (by simp) ?_); clear h; rintro v43 σ43 Ψ43 a w ⟨rfl, rfl, rfl⟩ h
    replace h := h.shareAll hS (List.map encs (prt n i).reverse ++ Rp) rfl
    replace h := h.derive (R := Row (some ⟨bp, 0, none⟩) (List.map encs (prt n i).reverse)) (fun X hX => row_pre (hX _ List.mem_cons_self))
    refine gL h (zn (zs (zr (zm rfl (zw [_, _] rfl Tryz.call45 (C_JoinL (some ⟨bp, 0, none⟩) c1 (prt n i).length (prt n i).reverse (by rw [List.length_reverse]) hG1.cap (by omega) (prt_sizeR n i)) (za rfl (zn (zt ?_)))))))); clear h; intro a w h
    refine retV h (results1 h rfl (.tmp rfl)) ?_
    rw [hcat]; rfl
theorem txtZ_sizeW (z : Int) : (txtZ z).size ≤ 10 * lenZ z + 2 := by
  unfold txtZ lenZ; have h1 := dB_sizeW z.natAbs; have h2 := size1 45
  split
  · rw [ByteArray.size_append]; omega
  · omega
theorem txtQ_sizeW (x : Rat) {K : Nat} (h : lenQ x ≤ K) : (txtQ x).size ≤ 20 * K + 10 := by
  obtain ⟨h1, h2⟩ := lenQ_le h
  have h3 := txtZ_sizeW x.num
  have h4 := dB_sizeW x.den
  have h5 := size1 47
  unfold txtQ
  split
  · omega
  · rw [ByteArray.size_append, ByteArray.size_append]; omega
theorem C_ZTextG (z : Int) (hz : lenZ z ≤ 300000) : CtrW Tryz.prog 55 [encZ z] [TabF] (.string (txtZ z)) := by
  have hz2 : (wds z.natAbs).length ≤ 300000 := hz
  refine fn_intro Tryz.func55 rfl Tryz.ntmps55 nb ?_
  intro S w0 a hS h
  refine gC h (zs (zr (zx rfl fun b1 => za rfl (zn (zs (zs (zr (zp (.fieldAddr rfl (fa_51_1 _ _)) (zd rfl mr Tryz.isAgg4 Tryz.sizeOf4 (rs_3_2 _ _ _) ?_))))))))); clear h; intro a w h
  refine wpList_nil ?_
  change Code.wp _ _ _ _ _
  refine cond_split h rfl (fun hc4 => ?_) (fun hc4 => ?_)
  · skip
    have hn : z < 0 := of_decide_eq_true hc4
    refine gC h (zs (zr (zp (.fieldAddr rfl (fa_51_0 _ _)) (zp (.fieldAddr rfl (fa_49_0 _ _)) (zd rfl mr Tryz.isAgg47 Tryz.sizeOf47 (rd_3_0_2 _ _ _) ?_))))); clear h; intro a w h
    refine gL h (zw [_] rfl Tryz.call56 (C_NTextG z.natAbs hz2) (zp (.binOp rfl rfl (fun _ => run_sadd _ _ _ _ _ (by have := dB_sizeW z.natAbs; have h1 := size1 45; omega))) (za rfl (zn (zt ?_))))); clear h; intro a w h
    refine retV h (results1 h rfl (.tmp rfl)) ?_
    unfold txtZ; rw [if_pos hn]
  · skip
    have hn : ¬ z < 0 := of_decide_eq_false hc4
    refine gC h (zk (zs (zr (zp (.fieldAddr rfl (fa_51_0 _ _)) (zp (.fieldAddr rfl (fa_49_0 _ _)) (zd rfl mr Tryz.isAgg47 Tryz.sizeOf47 (rd_3_0_2 _ _ _) ?_)))))); clear h; intro a w h
    refine gL h (zw [_] rfl Tryz.call56 (C_NTextG z.natAbs hz2) (za rfl (zn (zt ?_)))); clear h; intro a w h
    refine retV h (results1 h rfl (.tmp rfl)) ?_
    unfold txtZ; rw [if_neg hn]
theorem C_QTextG (x : Rat) (hx : lenQ x ≤ 300000) : CtrW Tryz.prog 21 [encQ x] [TabF] (.string (txtQ x)) := by
  obtain ⟨hq1, hq2⟩ := lenQ_le hx
  have hs1 := txtZ_sizeW x.num
  have hs2 := dB_sizeW x.den
  refine fn_intro Tryz.func21 rfl Tryz.ntmps21 nb ?_
  intro S w0 a hS h
  refine gC h (zs (zr (zx rfl fun b1 => za rfl (zn (zs (zs (zr (zd rfl mr Tryz.isAgg53 Tryz.sizeOf53 (rd_5_0_5 _ _ _ _ _) ?_)))))))); clear h; intro a w h
  refine gL h (zv [_] rfl Tryz.call54 (C_Whole x) (zn ?_)); clear h; intro a w h
  change Code.wp _ _ _ _ _
  refine cond_split h rfl (fun hc4 => ?_) (fun hc4 => ?_)
  · skip
    have hw : x.den = 1 := of_decide_eq_true hc4
    refine gC h (zs (zr (zp (.fieldAddr rfl (fa_53_0 _ _)) (zd rfl mr Tryz.isAgg51 Tryz.sizeOf51 (rd_5_0_3 _ _ _ _ _) ?_)))); clear h; intro a w h
    refine gL h (zw [_] rfl Tryz.call55 (C_ZTextG x.num hq1) (za rfl (zn (zt ?_)))); clear h; intro a w h
    refine retV h (results1 h rfl (.tmp rfl)) ?_
    unfold txtQ; rw [if_pos hw]
  · skip
    have hw : ¬ x.den = 1 := of_decide_eq_false hc4
    refine gC h (zk (zs (yD mixed_YtgkicbaomcmfoaaGreatDoor [0, 1, 4, 2, 3, 5, 6, 7, 8] (floatsOK_none (by kernel_rfl)) (yp rfl (.fieldAddr rfl (fa_53_0 _ _)) (yd rfl rfl mr Tryz.isAgg51 Tryz.sizeOf51 (rd_5_0_3 _ _ _ _ _) ?_))))); clear h
    refine yd rfl rfl mr Tryz.isAgg53 Tryz.sizeOf53 (rd_5_0_5 _ _ _ _ _) ?_
    refine yw [_] rfl rfl Tryz.call55 (C_ZTextG x.num hq1) (yp rfl (.binOp rfl rfl (fun _ => run_sadd _ _ _ _ _ (by have h1 := size1 47; omega))) (yv [_] rfl rfl Tryz.call57 (C_den x (by omega)) (yw [_] rfl rfl Tryz.call56 (C_NTextG x.den hq2) (yp rfl (.binOp rfl rfl (fun _ => run_sadd _ _ _ _ _ (by have h1 := size1 47; rw [ByteArray.size_append]; omega))) (yp rfl (.assign rfl) (yn (zt ?_))))))); intro a w h
    refine retV h (results1 h rfl (.tmp rfl)) ?_
    unfold txtQ; rw [if_neg hw]
end
section
theorem decDigits_ne (n : Nat) : Lib.decDigits n ≠ [] := fun e => by
  have h := congrArg List.length e
  rw [Lib.decDigits_length] at h
  by_cases h1 : n < 10
  · rw [Lib.nDigits_small h1] at h; cases h
  · rw [Lib.nDigits_big h1] at h; cases h
def isD (b : UInt8) : Prop := 48 ≤ b.toNat ∧ b.toNat ≤ 57
theorem decDigits_D : ∀ n : Nat, ∀ b ∈ Lib.decDigits n, isD b := by
  intro n
  induction n using Nat.strongRecOn with
  | _ n ih =>
    have key : ∀ a, a < 10 → isD (UInt8.ofNat (48 + a)) := fun a ha => by
      unfold isD; rw [UInt8.toNat_ofNat']; omega
    by_cases hn : n < 10
    · rw [Lib.decDigits_one hn]; intro b hb; rw [List.mem_singleton] at hb; subst hb; exact key n hn
    · have e : Lib.decDigits n = Lib.decDigits (n / 10) ++ [UInt8.ofNat (48 + n % 10)] := by rw [Lib.decDigits, dif_neg hn]
      rw [e]
      intro b hb
      rcases List.mem_append.1 hb with hb | hb
      · exact ih (n / 10) (by omega) b hb
      · rw [List.mem_singleton] at hb; subst hb; exact key _ (Nat.mod_lt _ (by decide))
theorem span_inj {C : UInt8 → Prop} : ∀ {u u' v v' : List UInt8}, (∀ b ∈ u, C b) → (∀ b ∈ u', C b) → (∀ b w, v = b :: w → ¬ C b) → (∀ b w, v' = b :: w → ¬ C b) → u ++ v = u' ++ v' → u = u' ∧ v = v'
  | [], [], v, v', _, _, _, _, h => ⟨rfl, h⟩
  | [], b :: u', v, v', _, h2, h3, _, h => by exact absurd (h2 b List.mem_cons_self) (h3 b (u' ++ v') h)
  | b :: u, [], v, v', h1, _, _, h4, h => by exact absurd (h1 b List.mem_cons_self) (h4 b (u ++ v) h.symm)
  | b :: u, b' :: u', v, v', h1, h2, h3, h4, h => by
    obtain ⟨e, h⟩ := List.cons.inj h
    obtain ⟨e1, e2⟩ := span_inj (fun x hx => h1 x (List.mem_cons_of_mem _ hx)) (fun x hx => h2 x (List.mem_cons_of_mem _ hx)) h3 h4 h
    exact ⟨by rw [e, e1], e2⟩
def qB (x : Rat) : List UInt8 := Lib.decDigits x.num.natAbs ++ (if x.den = 1 then [] else 47 :: Lib.decDigits x.den)
theorem txtQ_B {x : Rat} (h : 0 ≤ x.num) : (txtQ x).data.toList = qB x := by
  have hz : txtZ x.num = dB x.num.natAbs := by unfold txtZ; rw [if_neg (by omega)]
  unfold txtQ qB
  rw [hz]
  unfold dB
  by_cases hd : x.den = 1
  · rw [if_pos hd, if_pos hd]; simp
  · rw [if_neg hd, if_neg hd, ByteArray.data_append, ByteArray.data_append]; simp
theorem qB_ne (x : Rat) : qB x ≠ [] := fun e => decDigits_ne _ (List.append_eq_nil_iff.1 e).1
def isN (b : UInt8) : Prop := 47 ≤ b.toNat ∧ b.toNat ≤ 57
def ltB (i j : Nat) : List UInt8 := (joinB (letL ⟨#[120]⟩ i ++ letL ⟨#[121]⟩ j) ⟨#[42]⟩).data.toList
def tmB' (t : Tm) : List UInt8 := if ab t.c = ((1 : Int) : Rat) ∧ t.i + t.j ≠ 0 then ltB t.i t.j else qB (ab t.c) ++ (if t.i + t.j = 0 then [] else 42 :: ltB t.i t.j)
theorem join_one (x s : List UInt8) : Lib.join [x] s = x := by simp [Lib.join, List.intercalate]
theorem join_two (x y s : List UInt8) (l : List (List UInt8)) : Lib.join (x :: y :: l) s = x ++ (s ++ Lib.join (y :: l) s) := by simp [Lib.join, List.intercalate]
theorem letL_nil {s : ByteArray} {n : Nat} : letL s n = [] ↔ n = 0 := by
  unfold letL; split
  · simp_all
  · split <;> simp_all
theorem tmTx_B (t : Tm) : (tmTx txtQ t).data.toList = tmB' t := by
  have hq : (txtQ (ab t.c)).data.toList = qB (ab t.c) := txtQ_B (by rw [(ab_num t.c).1]; omega)
  unfold tmTx tmB' hdB
  by_cases h1 : ab t.c = ((1 : Int) : Rat) ∧ t.i + t.j ≠ 0
  · rw [if_pos h1, if_neg (by rw [decide_eq_true h1.1, decide_eq_false h1.2]; decide)]; rfl
  · rw [if_neg h1, if_pos (by
      simp only [Bool.or_eq_true, Bool.not_eq_true', decide_eq_false_iff_not, decide_eq_true_eq]
      by_cases h2 : ab t.c = ((1 : Int) : Rat)
      · exact .inr (Decidable.of_not_not (fun h3 => h1 ⟨h2, h3⟩))
      · exact .inl h2)]
    rw [List.singleton_append, List.cons_append]
    unfold joinB ltB joinB
    rw [← hq]
    by_cases h0 : t.i + t.j = 0
    · have e1 : letL ⟨#[120]⟩ t.i = [] := letL_nil.2 (by omega)
      have e2 : letL ⟨#[121]⟩ t.j = [] := letL_nil.2 (by omega)
      rw [if_pos h0, e1, e2]
      simp [join_one]
    · rw [if_neg h0]
      rcases hl : letL ⟨#[120]⟩ t.i ++ letL ⟨#[121]⟩ t.j with _ | ⟨y, l⟩
      · exfalso
        obtain ⟨e1, e2⟩ := List.append_eq_nil_iff.1 hl
        exact h0 (by rw [letL_nil.1 e1, letL_nil.1 e2])
      · rw [List.map_cons, List.map_cons, join_two]; simp
def sgB (t : Tm) : List UInt8 := if t.c.num.sign < 0 then [32, 45, 32] else [32, 43, 32]
def tlB : List Tm → List UInt8
  | [] => []
  | t :: p => sgB t ++ (tmB' t ++ tlB p)
def fuB : List Tm → List UInt8
  | [] => []
  | t :: p => (if t.c.num.sign < 0 then [45] else []) ++ (tmB' t ++ tlB p)
theorem tlB_snoc (t : Tm) : ∀ p : List Tm, tlB (p ++ [t]) = tlB p ++ (sgB t ++ tmB' t)
  | [] => by simp [tlB]
  | s :: p => by rw [List.cons_append, tlB, tlB_snoc t p, tlB]; simp
theorem fuB_snoc (t : Tm) (s : Tm) (p : List Tm) : fuB (s :: p ++ [t]) = fuB (s :: p) ++ (sgB t ++ tmB' t) := by
  rw [List.cons_append, fuB, tlB_snoc, fuB]; simp
theorem txP_B (p : List Tm) : ∀ k, k ≤ p.length → (txP txtQ p k).data.toList = fuB (p.take k)
  | 0, _ => rfl
  | k + 1, hk => by
    have ih := txP_B p k (by omega)
    have ht := tmTx_B (p.getD k T0)
    rw [txP, ByteArray.data_append, Array.toList_append, ht, take_snoc p (show k < p.length by omega)]
    rcases hp : p.take k with _ | ⟨s, r⟩
    · have hk0 : k = 0 := by
        have := congrArg List.length hp
        rw [List.length_take, List.length_nil] at this; omega
      subst hk0
      show _ = fuB [p.getD 0 T0]
      rw [fuB, tlB, List.append_nil]
      congr 1
      rw [show decide (0 = 0) = true from rfl]
      by_cases hs : (p.getD 0 T0).c.num.sign < 0
      · rw [decide_eq_true hs, if_pos hs]; rfl
      · rw [decide_eq_false hs, if_neg hs]; rfl
    · have hk0 : k ≠ 0 := fun e => by subst e; simp at hp
      rw [hp] at ih
      rw [fuB_snoc, ← ih, decide_eq_false hk0, ← List.append_assoc]
      congr 1
      unfold sgB
      by_cases hs : (p.getD k T0).c.num.sign < 0
      · rw [decide_eq_true hs, if_pos hs, preP, ByteArray.data_append, Array.toList_append]
      · rw [decide_eq_false hs, if_neg hs, preP, ByteArray.data_append, Array.toList_append]
theorem txtP_B (p : List Tm) : (txtP txtQ p).data.toList = if fuB p = [] then [48] else fuB p := by
  have h := txP_B p p.length (Nat.le_refl _)
  rw [List.take_length] at h
  unfold txtP
  by_cases h0 : fuB p = []
  · rw [if_pos h0, if_pos (by apply ByteArray.ext; apply Array.ext'; rw [h, h0])]
  · rw [if_neg h0, if_neg (fun e => h0 (by rw [← h, e])), h]
def OkD (t : Tm) : Prop := t.i < 4 ∧ t.j < 4 ∧ t.c ≠ 0
end
section
def OkE (E : List Tm) : Prop := Nrm E ∧ E.length ≤ 20 ∧ ∀ t ∈ E, t.i + t.j ≤ 12 ∧ t.c.num.natAbs < 100 ∧ t.c.den < 100
instance (E : List Tm) : Decidable (OkE E) := by unfold OkE Nrm; infer_instance
theorem lenQ_few {x : Rat} (h1 : x.num.natAbs < 100) (h2 : x.den < 100) : lenQ x ≤ 4 := by
  have a := wds_small (n := x.num.natAbs) (by omega)
  have b := wds_small (n := x.den) (by omega)
  unfold lenQ lenZ; omega
theorem OkE.pq {E : List Tm} (h : OkE E) : Pq 12 101 E := (Pq.raw (fun t ht => (h.2.2 t ht).1) (k := 4) (fun t ht => lenQ_few (h.2.2 t ht).2.1 (h.2.2 t ht).2.2) h.2.1 (by decide)).mono (Nat.le_refl _) (by decide)
theorem C_TE (E : List Tm) (s : ByteArray) (ad : Option Addr) (c : Nat) (h : OkE E) (hs : txtP textQ E = s) : CtrW Tryz.prog 16 [.slice ad E.length c] [Row ad (cellsOf encT E)] (.string s) := by
  have hn := norm_id h.1
  have h1 := C_PTextG E ad c 12 101 100 [] textQ h.pq (by decide) (by decide) (fun t ht => by
    rw [hn] at ht
    obtain ⟨_, h2, h3⟩ := h.2.2 t ht
    exact C_QText (ab t.c) (by rw [(ab_num t.c).1]; simpa using h2) (by rw [(ab_num t.c).2]; exact h3)) (fun t _ => by have := textQ_size (ab t.c); omega) (by decide) (by decide)
  rw [hn, hs] at h1
  exact h1
def hf : Rat := ((-1 : Int) : Rat) / ((2 : Int) : Rat)
attribute [local irreducible] hf
def xL : List Tm := [(⟨1, 0, ((1 : Int) : Rat)⟩ : Tm)]
def yL : List Tm := [(⟨0, 1, ((1 : Int) : Rat)⟩ : Tm)]
def rA : List Tm := [(⟨0, 0, hf⟩ : Tm), (⟨1, 0, ((1 : Int) : Rat)⟩ : Tm), (⟨1, 2, ((-3 : Int) : Rat)⟩ : Tm)]
def rB : List Tm := [(⟨2, 0, ((1 : Int) : Rat)⟩ : Tm), (⟨1, 1, ((2 : Int) : Rat)⟩ : Tm), (⟨2, 0, ((-1 : Int) : Rat)⟩ : Tm)]
def r7 : List Tm := [(⟨7, 0, ((1 : Int) : Rat)⟩ : Tm)]
def r6 : List Tm := [(⟨0, 6, ((1 : Int) : Rat)⟩ : Tm)]
def rH : List Tm := [(⟨1, 1, ((1 : Int) : Rat)⟩ : Tm)]
def rG : List Tm := [(⟨2, 1, ((1 : Int) : Rat)⟩ : Tm)]
def rL : List Tm := [(⟨3, 0, ((1 : Int) : Rat)⟩ : Tm), (⟨0, 2, ((1 : Int) : Rat)⟩ : Tm)]
def rK : List Tm := [(⟨0, 0, ((5 : Int) : Rat)⟩ : Tm), (⟨1, 0, ((1 : Int) : Rat)⟩ : Tm)]
def rM : List Tm := [(⟨2, 0, ((1 : Int) : Rat)⟩ : Tm), (⟨0, 1, ((1 : Int) : Rat)⟩ : Tm)]
def eA : List Tm := [(⟨0, 0, hf⟩ : Tm), (⟨1, 0, ((1 : Int) : Rat)⟩ : Tm), (⟨1, 2, ((-3 : Int) : Rat)⟩ : Tm)]
def eB : List Tm := [(⟨1, 1, ((2 : Int) : Rat)⟩ : Tm)]
def e7 : List Tm := [(⟨7, 0, ((1 : Int) : Rat)⟩ : Tm)]
def e6 : List Tm := [(⟨0, 6, ((1 : Int) : Rat)⟩ : Tm)]
theorem e6_ok : OkE e6 := by unfold e6; decide +kernel
def eH0 : List Tm := [(⟨1, 1, ((1 : Int) : Rat)⟩ : Tm)]
def eG : List Tm := [(⟨2, 1, ((1 : Int) : Rat)⟩ : Tm)]
def eL0 : List Tm := [(⟨0, 2, ((1 : Int) : Rat)⟩ : Tm), (⟨3, 0, ((1 : Int) : Rat)⟩ : Tm)]
def eK : List Tm := [(⟨0, 0, ((5 : Int) : Rat)⟩ : Tm), (⟨1, 0, ((1 : Int) : Rat)⟩ : Tm)]
def eM : List Tm := [(⟨0, 1, ((1 : Int) : Rat)⟩ : Tm), (⟨2, 0, ((1 : Int) : Rat)⟩ : Tm)]
def eS : List Tm := [(⟨1, 0, ((1 : Int) : Rat)⟩ : Tm), (⟨0, 1, ((1 : Int) : Rat)⟩ : Tm)]
def eD : List Tm := [(⟨1, 0, ((1 : Int) : Rat)⟩ : Tm), (⟨0, 1, ((-1 : Int) : Rat)⟩ : Tm)]
def eC : List Tm := [(⟨2, 0, ((1 : Int) : Rat)⟩ : Tm), (⟨0, 2, ((-1 : Int) : Rat)⟩ : Tm)]
def e1 : List Tm := [(⟨0, 0, ((1 : Int) : Rat)⟩ : Tm)]
theorem e1_ok : OkE e1 := by unfold e1; decide +kernel
def eP : List Tm := [(⟨0, 0, ((1 : Int) : Rat)⟩ : Tm), (⟨1, 0, ((1 : Int) : Rat)⟩ : Tm)]
def eQ : List Tm := [(⟨0, 0, ((1 : Int) : Rat)⟩ : Tm), (⟨1, 0, ((3 : Int) : Rat)⟩ : Tm), (⟨2, 0, ((3 : Int) : Rat)⟩ : Tm), (⟨3, 0, ((1 : Int) : Rat)⟩ : Tm)]
def eH : List Tm := [(⟨0, 1, ((2 : Int) : Rat)⟩ : Tm), (⟨1, 1, ((1 : Int) : Rat)⟩ : Tm)]
def eL : List Tm := [(⟨0, 0, ((2 : Int) : Rat)⟩ : Tm), (⟨1, 0, ((6 : Int) : Rat)⟩ : Tm)]
theorem i1 : ((1 : Int) : Rat) = 1 := rfl
theorem i0 : ((0 : Int) : Rat) = 0 := rfl
theorem i2 : ((2 : Int) : Rat) = 2 := rfl
theorem i3 : ((3 : Int) : Rat) = 3 := rfl
theorem i5 : ((5 : Int) : Rat) = 5 := rfl
theorem n6 : norm r6 = e6 := norm_id e6_ok.1
theorem n1 : norm [(⟨0, 0, ((1 : Int) : Rat)⟩ : Tm)] = e1 := norm_id e1_ok.1
end
section
end
section
end
section
abbrev encA6 (a b c d e f : Rat) : Value := .agg #[.int .u64 (lowN a.num.natAbs), .string (bigN a.num.natAbs), .bool (decide (a.num < 0)), .int .u64 (lowN (a.den - 1)), .string (bigN (a.den - 1)), .int .u64 (lowN b.num.natAbs), .string (bigN b.num.natAbs), .bool (decide (b.num < 0)), .int .u64 (lowN (b.den - 1)), .string (bigN (b.den - 1)), .int .u64 (lowN c.num.natAbs), .string (bigN c.num.natAbs), .bool (decide (c.num < 0)), .int .u64 (lowN (c.den - 1)), .string (bigN (c.den - 1)), .int .u64 (lowN d.num.natAbs), .string (bigN d.num.natAbs), .bool (decide (d.num < 0)), .int .u64 (lowN (d.den - 1)), .string (bigN (d.den - 1)), .int .u64 (lowN e.num.natAbs), .string (bigN e.num.natAbs), .bool (decide (e.num < 0)), .int .u64 (lowN (e.den - 1)), .string (bigN (e.den - 1)), .int .u64 (lowN f.num.natAbs), .string (bigN f.num.natAbs), .bool (decide (f.num < 0)), .int .u64 (lowN (f.den - 1)), .string (bigN (f.den - 1))]
abbrev encS6 (s0 s1 s2 s3 s4 s5 : Int × Int) : Value := .agg #[.int .i64 s0.1, .int .u32 s0.2, .int .i64 s1.1, .int .u32 s1.2, .int .i64 s2.1, .int .u32 s2.2, .int .i64 s3.1, .int .u32 s3.2, .int .i64 s4.1, .int .u32 s4.2, .int .i64 s5.1, .int .u32 s5.2]
def c6 (ss : List (Int × Int)) : Nat → List Rat
  | 0 => List.replicate 6 0
  | i + 1 => (c6 ss i).set i (qv (ss.getD i (0, 0)).1 (ss.getD i (0, 0)).2)
end
section
theorem ok_c {t : Tm} (h : t.c ≠ 0) (hc : (t.c.num.sign == 0) = true) : False := by
  rw [beq_iff_eq, Int.sign_eq_zero_iff_zero] at hc
  exact h (Rat.num_eq_zero.1 hc)
theorem nrm_adj {p : List Tm} (h : Nrm p) {i : Nat} (h0 : 0 < i) (hi : i < p.length) : ordT (p.getD (i - 1) T0) (p.getD i T0) < 0 := by
  rw [ordT_lt]
  have := List.pairwise_iff_getElem.1 h.2 (i - 1) i (by omega) hi (by omega)
  simpa [List.getD, hi, show i - 1 < p.length by omega] using this
theorem C_OkN (p : List Tm) (ad : Option Addr) (c : Nat) (hN : Nrm p) (hd : DL 12 p) (hn : p.length ≤ 100000) : CtrW Tryz.prog 17 [.slice ad p.length c] [Row ad (cellsOf encT p)] (.bool true) := by
  refine fn_intro Tryz.func17 rfl Tryz.ntmps17 nb ?_
  intro S w0 a hS h
  refine gC h (zs (zr (za rfl (zn (zs (zs (zr (zm rfl (zp (.builtin [_] rfl (len_slice_25 _ _ _)) (zm rfl (zn (zb ?_)))))))))))); clear h; intro a w h
  refine wp_loop_inv (fun (i : Nat) a w => i ≤ p.length ∧ St 36 S w0 [(0, .slice ad p.length c), (5, .slice ad p.length c), (6, .int .i64 ((p.length : Nat) : Int)), (7, .int .i64 ((i : Nat) : Int))] [] [Row ad (cellsOf encT p)] a w) (fun i => p.length - i) 0 (⟨Nat.zero_le _, by exact (h).sub (subL ⟨rfl, rfl, rfl, rfl, trivial⟩)⟩) ?_; clear h
  rintro i a w ⟨hi_i, h⟩
  refine gC h (zs (zr (zp (.lss rfl rfl) (zn (zs ?_))))); clear h; intro a w h
  refine cond_split h rfl (fun hc8 => ?_) (fun hc8 => ?_)
  · skip
    have hlt_i : i < p.length := by have := of_decide_eq_true hc8; omega
    obtain ⟨B_ad, O_ad, rfl⟩ := h.row_addr (ad := ad) (M := cellsOf encT p) mm (by intro e; have := congrArg List.length e; rw [cellsOf_length (k := 7) (fun _ => rfl)] at this; simp only [List.length_nil, Nat.mul_eq_zero] at this; omega)
    have hmem := getD_mem p (d := T0) hlt_i
    have hdg := hd _ hmem
    refine gC h (zk (zs (zb (zs (zr (zm rfl (zp (.indexAddr rfl rfl (ix_25 _ _ _ _ _ (by omega))) (zD rfl mm (cells_lt (k := 7) (by decide) (fun _ => rfl) p i (by omega)) Tryz.isAgg82 Tryz.sizeOf82 (read_cells (k := 7) (fun _ => rfl) ((fun _ => rfl)) p T0 i (by omega)) (.inl rfl) ?_)))))))); clear h; intro a w h
    refine gL h (zz zeroT fun b4 => za rfl (zt' rfl rfl (st_7_0_7 _ _ _ _ _ _ _ _ _ _ _ _ _ _) uu Tryz.sizeOf82 rfl nb rfl ?_)); clear h; intro a w h
    refine gL h (zn (zs (yD mixed_YtgkicbaomcmfoaaGreatDoor [0, 1, 2, 3, 4, 5, 6, 7, 8, 9, 10, 11, 12, 13, 14, 15, 16, 17, 18, 19, 20, 21, 22] (floatsOK_none (by kernel_rfl)) (yd rfl rfl mr Tryz.isAgg82 Tryz.sizeOf82 (rd_7_0_7 _ _ _ _ _ _ _) ?_)))); clear h
    refine yv [_] rfl rfl Tryz.call47 (C_may (p.getD i T0) (by omega)) (yp rfl (.neq rfl rfl) ?_)
    refine head_bool (fun hc14  => (by exfalso; exact absurd hc14 (by decide))) (fun hc14  => ?_)
    refine yp rfl (.move rfl) (yq rfl rfl rfl (.fieldAddr rfl (fa_82_2 _ _)) (yg rfl rfl rfl rfl mr Tryz.isAgg53 Tryz.sizeOf53 (rd_7_2_5 _ _ _ _ _ _ _) ?_))
    refine head_callVG rfl rfl rfl (by kernel_rfl) (vs := [_]) rfl Tryz.call43 (C_QSign _) (by decide) ?_
    refine yq rfl rfl rfl (.eql rfl rfl) ?_
    refine head_bool (fun hc19  => (by exfalso; exact ok_c (hN.1 _ hmem) hc19)) (fun hc19  => ?_)
    refine yp rfl (.pickF rfl rfl) (yp rfl (.move rfl) (yq rfl rfl rfl (.move rfl) (yq rfl rfl rfl (.gtr rfl rfl) ?_)))
    refine head_bool (fun hc23  => ?_) (fun hc23  => ?_)
    · skip
      have h0i : 0 < i := by have := of_decide_eq_true hc23; omega
      have hdg2 := hd _ (getD_mem p (d := T0) (show i - 1 < p.length by omega))
      refine yq rfl rfl rfl (.move rfl) (yq rfl rfl rfl (.move rfl) (yq rfl rfl rfl (.move rfl) (yq rfl rfl rfl (Pure1.cast (v' := (.int .i64 ((i - 1 : Nat) : Int))) (.sub rfl rfl) (by show Value.int _ _ = Value.int _ _; congr 1; omega)) (yq rfl rfl rfl (.indexAddr rfl rfl (ix_25 _ _ _ _ _ (by omega))) ?_))))
      refine head_loadRowG rfl rfl rfl (by kernel_rfl) rfl mm (cells_lt (k := 7) (by decide) (fun _ => rfl) p (i - 1) (by omega)) Tryz.isAgg82 Tryz.sizeOf82 (read_cells (k := 7) (fun _ => rfl) ((fun _ => rfl)) p T0 (i - 1) (by omega)) (.inl rfl) (by decide) ?_
      refine yg rfl rfl rfl rfl mr Tryz.isAgg82 Tryz.sizeOf82 (rd_7_0_7 _ _ _ _ _ _ _) ?_
      refine head_callVG rfl rfl rfl (by kernel_rfl) (vs := [_, _]) rfl Tryz.call48 (C_porder (p.getD (i - 1) T0) (p.getD i T0) (by omega) (by omega)) (by decide) ?_
      refine yq rfl rfl rfl (.geq rfl rfl) ?_
      refine head_bool (fun hc32  => (by exfalso; have h8 := of_decide_eq_true hc32; have h9 := nrm_adj hN h0i hlt_i; omega)) (fun hc32  => ?_)
      refine yq rfl rfl rfl (.pickT rfl rfl) (yp rfl (.pickF rfl rfl) (yn ?_)); intro a w h
      change Code.wp _ _ _ _ _
      refine cond_false h rfl ?_
      refine gC h (zk (zr (zp (Pure1.cast (v' := (.int .i64 ((i + 1 : Nat) : Int))) (.add rfl rfl) (by show Value.int _ _ = Value.int _ _; congr 1)) (zm rfl (zn ?_))))); clear h; intro a w h
      exact ⟨i + 1, ⟨by omega, ((h.drop sl).factsSub (by simp)).sub sA⟩, by omega⟩
    · skip
      refine yq rfl rfl rfl (.move rfl) (yo 24 rfl rfl rfl rfl (yo 24 rfl rfl rfl rfl (yo 24 rfl rfl rfl rfl (yo 24 rfl rfl rfl rfl (yo 24 rfl rfl rfl rfl (yo 24 rfl rfl rfl rfl (yo 24 rfl rfl rfl rfl (yo 24 rfl rfl rfl rfl (yq rfl rfl rfl (.pickF rfl rfl) (yp rfl (.pickF rfl rfl) (yn ?_))))))))))); intro a w h
      change Code.wp _ _ _ _ _
      refine cond_false h rfl ?_
      refine gC h (zk (zr (zp (Pure1.cast (v' := (.int .i64 ((i + 1 : Nat) : Int))) (.add rfl rfl) (by show Value.int _ _ = Value.int _ _; congr 1)) (zm rfl (zn ?_))))); clear h; intro a w h
      exact ⟨i + 1, ⟨by omega, ((h.drop sl).factsSub (by simp)).sub sA⟩, by omega⟩
  · skip
    have heq_i : p.length = i := by have := of_decide_eq_false hc8; omega
    subst heq_i
    refine gC h (ze (zs (zr (za rfl (zn (zt ?_)))))); clear h; intro a w h
    refine retV h (results1 h rfl (.tmp rfl)) ?_
    rfl
theorem tx_size {d K : Nat} {p : List Tm} (hq : Pq d K p) : ∀ t ∈ norm p, (txtQ (ab t.c)).size ≤ 20 * K + 10 := fun t ht => by
  have h := hq.nsz t ht
  refine txtQ_sizeW _ ?_
  unfold lenQ lenZ at *
  rw [(ab_num t.c).1, (ab_num t.c).2]; exact h
theorem tx_ctr {d K : Nat} {p : List Tm} (hq : Pq d K p) (hK : K ≤ 300000) : ∀ t ∈ norm p, CtrW Tryz.prog 21 [encQ (ab t.c)] [TabF] (.string (txtQ (ab t.c))) := fun t ht => C_QTextG (ab t.c) (by
  have h := hq.nsz t ht
  unfold lenQ lenZ at *
  rw [(ab_num t.c).1, (ab_num t.c).2]; exact Nat.le_trans h hK)
theorem C_TextG (p : List Tm) (ad : Option Addr) (c d K : Nat) (hq : Pq d K p) (hd : d ≤ 12) (hK : K ≤ 300000) : CtrW Tryz.prog 16 [.slice ad p.length c] [Row ad (cellsOf encT p), TabF] (.string (txtP txtQ (norm p))) :=
  C_PTextG p ad c d K (20 * K + 10) [TabF] txtQ hq hd (by omega) (tx_ctr hq hK) (tx_size hq) (by omega) (by omega)
theorem nrm_of {l G : List Tm} (h : norm l = G) : Nrm G := h ▸ norm_nrm l
end
section
def zpt (x y : Int) : Pt := (((x : Int) : Rat), ((y : Int) : Rat))
def pX : List Tm := [⟨1, 0, ((1 : Int) : Rat)⟩]
def pY : List Tm := [⟨0, 1, ((1 : Int) : Rat)⟩]
def p1 : List Tm := [⟨0, 0, ((1 : Int) : Rat)⟩]
theorem nrm_tri (p : List Tm) (u v z : Pt) : triQ (norm p) u v z = triQ p u v z := triQ_eqv (Eqv.nrm p) u v z
def Sm (n d : Int) : Prop := (-9223372036854775808 ≤ n ∧ n ≤ 9223372036854775807) ∧ (-9223372036854775808 ≤ d ∧ d ≤ 9223372036854775807) ∧ d ≠ 0 ∧ ((n : Rat) / (d : Rat)).num.natAbs < 100 ∧ ((n : Rat) / (d : Rat)).den < 100
instance (n d : Int) : Decidable (Sm n d) := by unfold Sm; infer_instance
theorem w1 : triQ (norm p1) (zpt 0 0) (zpt 1 0) (zpt 0 1) = ((1 : Int) : Rat) / ((2 : Int) : Rat) := by rw [nrm_tri]; decide +kernel
theorem w2 : triQ (norm (mulL pX pY)) (zpt 0 0) (zpt 1 0) (zpt 0 1) = ((1 : Int) : Rat) / ((24 : Int) : Rat) := by rw [nrm_tri]; decide +kernel
end
section
end
section
def tmZ (t : Tz) : Tm := ⟨t.i.toNat, t.j.toNat, t.c⟩
def toZ (t : Tm) : Tz := ⟨(t.i : Int), (t.j : Int), t.c⟩
theorem Tz.ext' {s t : Tz} (h1 : s.i = t.i) (h2 : s.j = t.j) (h3 : s.c = t.c) : s = t := by cases s; cases t; simp_all
instance : DecidableEq Tz := fun s t => decidable_of_iff (s.i = t.i ∧ s.j = t.j ∧ s.c = t.c) ⟨fun ⟨a, b, c⟩ => Tz.ext' a b c, fun h => h ▸ ⟨rfl, rfl, rfl⟩⟩
def npZ (Z : List Tz) : List Tm := if firstZ Z = 0 then norm (Z.map tmZ) else []
def okK (Z : List Tz) (k : Nat) : Bool := decide (mayZ (Z.getD k Tz0) = 0) && !decide ((Z.getD k Tz0).c = 0) && (decide (k = 0) || decide (ordT (tmZ (Z.getD (k - 1) Tz0)) (tmZ (Z.getD k Tz0)) < 0))
def okB (Z : List Tz) : Bool := decide (∀ k, k < Z.length → okK Z k = true)
end
section
def polK : List Rat → Nat → List Tm
  | [], _ => []
  | x :: l, k => ⟨k / 13, k % 13, x⟩ :: polK l (k + 1)
def pol (X : List Rat) : List Tm := polK X 0
theorem polK_len : ∀ (X : List Rat) (k : Nat), (polK X k).length = X.length
  | [], _ => rfl
  | x :: l, k => by rw [polK, List.length_cons, List.length_cons, polK_len l (k + 1)]
theorem pol_len (X : List Rat) : (pol X).length = X.length := polK_len X 0
theorem polK_get : ∀ (X : List Rat) (k m : Nat), m < X.length → (polK X k).getD m T0 = ⟨(k + m) / 13, (k + m) % 13, X.getD m 0⟩
  | [], _, _, h => absurd h (Nat.not_lt_zero _)
  | x :: l, k, 0, _ => rfl
  | x :: l, k, m + 1, h => by
    rw [polK, List.getD_cons_succ, polK_get l (k + 1) m (by simpa using h), List.getD_cons_succ, show k + 1 + m = k + (m + 1) by omega]
theorem pol_get {X : List Rat} {m : Nat} (h : m < X.length) : (pol X).getD m T0 = ⟨m / 13, m % 13, X.getD m 0⟩ := by
  unfold pol; rw [polK_get X 0 m h, Nat.zero_add]
theorem lin_polK_zero (φ : Nat → Nat → Rat) : ∀ n k : Nat, lin φ (polK (List.replicate n 0) k) = 0
  | 0, _ => rfl
  | n + 1, k => by rw [List.replicate_succ, polK, lin, lin_polK_zero φ n (k + 1)]; grind
theorem lin_pol_zero (φ : Nat → Nat → Rat) (n : Nat) : lin φ (pol (List.replicate n 0)) = 0 := lin_polK_zero φ n 0
theorem lin_polK_at {i j : Nat} (hj : j < 13) : ∀ (X : List Rat) (k : Nat), lin (at0 i j) (polK X k) = if k ≤ 13 * i + j then X.getD (13 * i + j - k) 0 else 0
  | [], k => by simp [polK, lin]
  | x :: l, k => by
    have ha : at0 i j (k / 13) (k % 13) = if k = 13 * i + j then 1 else 0 := by
      unfold at0
      by_cases h : k = 13 * i + j
      · rw [if_pos (by omega), if_pos h]
      · rw [if_neg (by omega), if_neg h]
    rw [polK, lin, lin_polK_at hj l (k + 1)]
    dsimp only
    rw [ha]
    by_cases h : k = 13 * i + j
    · rw [if_pos h, if_neg (by omega), if_pos (by omega), show 13 * i + j - k = 0 by omega, List.getD_cons_zero]; grind
    · rw [if_neg h]
      by_cases h2 : k ≤ 13 * i + j
      · rw [if_pos (by omega), if_pos h2, show 13 * i + j - k = (13 * i + j - (k + 1)) + 1 by omega, List.getD_cons_succ]; grind
      · rw [if_neg (by omega), if_neg h2]; grind
theorem pol_at {X : List Rat} {i j : Nat} (hj : j < 13) : lin (at0 i j) (pol X) = X.getD (13 * i + j) 0 := by
  unfold pol; rw [lin_polK_at hj X 0, if_pos (Nat.zero_le _), Nat.sub_zero]
theorem pol_at' {X : List Rat} {p : List Tm} (h : Eqv (pol X) p) (k : Nat) : X.getD k 0 = lin (at0 (k / 13) (k % 13)) p := by
  rw [← h, pol_at (Nat.mod_lt _ (by decide))]; congr 1; omega
theorem pol_mem {X : List Rat} {t : Tm} (h : t ∈ pol X) : ∃ k, k < X.length ∧ t = ⟨k / 13, k % 13, X.getD k 0⟩ := by
  obtain ⟨k, hk, e⟩ := List.mem_iff_getElem.1 h
  rw [pol_len] at hk
  refine ⟨k, hk, ?_⟩
  rw [← pol_get hk, ← e]
  simp [List.getD, show k < (pol X).length by rw [pol_len]; exact hk]
theorem Hb.sub {K : Nat} {l m : List Tm} (h : Hb K l) (h1 : ∀ t ∈ m, t ∈ l) (h2 : sab m ≤ sab l) : Hb K m := by
  obtain ⟨D, N, a, b, c, d, e⟩ := h
  refine ⟨D, N, a, b, c, fun t ht => d t (h1 t ht), ?_⟩
  have := mul_le_mulr h2 (cast_nonneg D)
  grind
theorem ID_lin {D a b : Nat} : ∀ {p : List Tm}, (∀ t ∈ p, ID D t.c) → ID D (lin (at0 a b) p)
  | [], _ => ID.zero D
  | t :: p, h => by
    rw [lin]
    refine ID.add ?_ (ID_lin (fun s hs => h s (List.mem_cons_of_mem _ hs)))
    unfold at0
    split
    · rw [Rat.mul_one]; exact h t List.mem_cons_self
    · rw [Rat.mul_zero]; exact ID.zero D
theorem lin_le_sab {φ : Nat → Nat → Rat} (h : ∀ i j, φ i j = 1 ∨ φ i j = -1) : ∀ p : List Tm, lin φ p ≤ sab p
  | [] => by simp only [lin, sab]; grind
  | t :: p => by
    have ih := lin_le_sab h p
    have h1 : t.c * φ t.i t.j ≤ ab t.c := by
      rcases h t.i t.j with e | e <;> rw [e] <;> unfold ab <;> split <;> grind
    simp only [lin, sab]; grind
theorem sab_polK (φ : Nat → Nat → Rat) : ∀ (l : List Rat) (k : Nat), (∀ m, m < l.length → φ ((k + m) / 13) ((k + m) % 13) = if l.getD m 0 < 0 then -1 else 1) → sab (polK l k) = lin φ (polK l k)
  | [], _, _ => rfl
  | x :: l, k, h => by
    have ih := sab_polK φ l (k + 1) (fun m hm => by
      have := h (m + 1) (by simpa using hm)
      rwa [show k + (m + 1) = k + 1 + m by omega, List.getD_cons_succ] at this)
    have h0 := h 0 (by simp)
    rw [Nat.add_zero, List.getD_cons_zero] at h0
    simp only [polK, sab, lin, ih, h0]
    unfold ab
    split <;> grind
theorem sab_pol_le {X : List Rat} {p : List Tm} (h : Eqv (pol X) p) : sab (pol X) ≤ sab p := by
  have e := sab_polK (fun i j => if X.getD (13 * i + j) 0 < 0 then -1 else 1) X 0 (fun m hm => by
    rw [Nat.zero_add]
    have : 13 * (m / 13) + m % 13 = m := by omega
    simp only [this])
  have e2 : sab (pol X) = lin (fun i j => if X.getD (13 * i + j) 0 < 0 then -1 else 1) p := by rw [← h]; exact e
  rw [e2]
  exact lin_le_sab (fun i j => by split <;> simp) p
theorem Hb.of_eqv {K : Nat} {X : List Rat} {p : List Tm} (h : Hb K p) (he : Eqv (pol X) p) : Hb K (pol X) := by
  obtain ⟨D, N, a, b, c, d, e⟩ := h
  refine ⟨D, N, a, b, c, fun t ht => ?_, ?_⟩
  · obtain ⟨k, hk, rfl⟩ := pol_mem ht
    show ID D (X.getD k 0)
    rw [pol_at' he k]; exact ID_lin d
  · have := mul_le_mulr (sab_pol_le he) (cast_nonneg D)
    grind
structure Tb (d K : Nat) (X : List Rat) : Prop where
  len : X.length = 169
  deg : ∀ k, k < 169 → X.getD k 0 ≠ 0 → k / 13 + k % 13 ≤ d
  hgt : Hb K (pol X)
theorem Tb.siz {d K : Nat} {X : List Rat} (h : Tb d K X) {k : Nat} (hk : k < 169) : lenQ (X.getD k 0) ≤ K := by
  have h1 := h.hgt.siz _ (getD_mem (pol X) (d := T0) (show k < (pol X).length by rw [pol_len, h.len]; exact hk))
  rwa [pol_get (by rw [h.len]; exact hk)] at h1
theorem Tb.of_eqv {d K : Nat} {X : List Rat} {p : List Tm} (hl : X.length = 169) (he : Eqv (pol X) p) (hd : DL d p) (hh : Hb K p) : Tb d K X := by
  refine ⟨hl, fun k hk hne => ?_, hh.of_eqv he⟩
  rw [pol_at' he k] at hne
  obtain ⟨u, hu, e1, e2⟩ := coef_mem hne
  have := DL_norm hd u hu
  omega
theorem Tb.mono {d K d' K' : Nat} {X : List Rat} (h : Tb d K X) (hd : d ≤ d') (hk : K ≤ K') : Tb d' K' X := ⟨h.len, fun k hk hne => Nat.le_trans (h.deg k hk hne) hd, h.hgt.mono hk⟩
theorem Tb.zero (d : Nat) : Tb d 1 (List.replicate 169 0) := Tb.of_eqv (p := []) (by simp) (fun φ => by rw [lin_pol_zero, lin_nil]) (fun _ h => nomatch h) Hb.nil
def qM (A B : List Rat) (k m : Nat) : List Tm := mulL ((pol A).take k) (pol B) ++ ((pol B).take m).map (mulS ((pol A).getD k T0))
def addX (A B : List Rat) : Nat → List Rat
  | 0 => List.replicate 169 0
  | k + 1 => (addX A B k).set k (A.getD k 0 + B.getD k 0)
def scX (c : Rat) (A : List Rat) : Nat → List Rat
  | 0 => List.replicate 169 0
  | k + 1 => (scX c A k).set k (c * A.getD k 0)
def lineX (a b c : Rat) : List Rat := (((List.replicate 169 (0 : Rat)).set 13 a).set 1 b).set 0 c
def oneX : List Rat := (List.replicate 169 (0 : Rat)).set 0 ((1 : Int) : Rat)
def noY (l : List Tm) : List Tm := l.map (fun t => ⟨t.i, 0, t.c⟩)
def sgF (X : List Rat) : Nat → Rat
  | 0 => 0
  | i + 1 => sgF X i + X.getD (13 * i) 0 / (((i + 1 : Nat) : Int) : Rat)
end
section
abbrev xs (l : List FT) : List Rat := l.map FT.x
theorem AllF.set {l : List FT} {e : FT} {k : Nat} {X : Nat → Prop} {w : World} (h : (AllF l).p X w) (h1 : (Row e.a1 (List.map encn (dg e.x.num.natAbs))).p X w) (h2 : (Row e.a2 (List.map encn (dg (e.x.den - 1)))).p X w) : (AllF (l.set k e)).p X w := by
  intro f hf
  rcases List.mem_or_eq_of_mem_set hf with hf | rfl
  · exact h f hf
  · exact ⟨h1, h2⟩
theorem AllF.zeros (n : Nat) (X : Nat → Prop) (w : World) : (AllF (List.replicate n FT0)).p X w := by
  intro f hf
  rw [(List.mem_replicate.1 hf).2]
  have e1 : List.map encn (dg FT0.x.num.natAbs) = [] := by rw [show FT0.x.num.natAbs = 0 from rfl, dg_zero]; rfl
  have e2 : List.map encn (dg (FT0.x.den - 1)) = [] := by rw [show FT0.x.den - 1 = 0 from rfl, dg_zero]; rfl
  rw [e1, e2]
  exact ⟨fun hne => absurd rfl hne, fun hne => absurd rfl hne⟩
theorem Tb.nrmDL {d K : Nat} {X : List Rat} (h : Tb d K X) : DL d (norm (pol X)) := fun u hu => by
  obtain ⟨hc, hne⟩ := norm_mem hu
  obtain ⟨t, ht, e1, e2⟩ := collect_mem hc
  obtain ⟨k, hk, rfl⟩ := pol_mem ht
  have h1 := nrm_coef (norm_nrm (pol X)) hu
  rw [lin_norm, e1, e2] at h1
  rw [h.len] at hk
  have h2 := pol_at (X := X) (i := k / 13) (j := k % 13) (Nat.mod_lt _ (by decide))
  rw [show 13 * (k / 13) + k % 13 = k by omega] at h2
  have h3 := h.deg k hk (by rw [← h2]; simp only at h1; rw [h1]; exact hne)
  simp only at e1 e2
  omega
theorem Tb.pq {d K : Nat} {X : List Rat} (h : Tb d K X) (hd : d ≤ 12) : Pq d K (norm (pol X)) :=
  ⟨h.nrmDL, Nat.le_trans (nrm_len (norm_nrm (pol X)) h.nrmDL) (Nat.le_trans (tri_mono (show d + 1 ≤ 13 by omega)) (by decide)), h.hgt.nrm⟩
def PostT (d K : Nat) (p : List Tm) (v : Value) (Ψ : List SPred) : Prop := ∃ b l, v = .slice (some ⟨b, 0, none⟩) 169 169 ∧ Tb d K (xs l) ∧ Eqv (pol (xs l)) p ∧ Ψ = [Row (some ⟨b, 0, none⟩) (cellsOf encF l), AllF l]
def PostT2 (d K : Nat) (p : List Tm) (v : Value) (Ψ : List SPred) : Prop := ∃ b l, v = .tuple #[.slice (some ⟨b, 0, none⟩) 169 169, .int .i64 0] ∧ Tb d K (xs l) ∧ Eqv (pol (xs l)) p ∧ Ψ = [Row (some ⟨b, 0, none⟩) (cellsOf encF l), AllF l]
theorem AllF.g1 {l : List FT} {X : Nat → Prop} {w : World} (h : (AllF l).p X w) (k : Nat) : (Row (l.getD k FT0).a1 (List.map encn (dg (l.getD k FT0).x.num.natAbs))).p X w := by
  by_cases hk : k < l.length
  · exact AllF.get1 h (getD_mem _ hk)
  · rw [List.getD_eq_getElem?_getD, List.getElem?_eq_none (by omega)]; exact (AllF.zeros 1 X w FT0 (by simp)).1
theorem AllF.g2 {l : List FT} {X : Nat → Prop} {w : World} (h : (AllF l).p X w) (k : Nat) : (Row (l.getD k FT0).a2 (List.map encn (dg ((l.getD k FT0).x.den - 1)))).p X w := by
  by_cases hk : k < l.length
  · exact AllF.get2 h (getD_mem _ hk)
  · rw [List.getD_eq_getElem?_getD, List.getElem?_eq_none (by omega)]; exact (AllF.zeros 1 X w FT0 (by simp)).2
def badP (A B : List Rat) : Prop := ∃ k m, k < 169 ∧ m < 169 ∧ A.getD k 0 ≠ 0 ∧ B.getD m 0 ≠ 0 ∧ 12 < k / 13 + m / 13 + (k % 13 + m % 13)
def NB (A B : List Rat) (k m : Nat) : Prop := ∀ k2 m2, m2 < 169 → (k2 < k ∨ k2 = k ∧ m2 < m) → A.getD k2 0 ≠ 0 → B.getD m2 0 ≠ 0 → k2 / 13 + m2 / 13 + (k2 % 13 + m2 % 13) ≤ 12
theorem NB.zero {A B : List Rat} : NB A B 0 0 := fun k2 m2 _ h => by omega
theorem NB.row {A B : List Rat} {k : Nat} (h : NB A B k 169) : NB A B (k + 1) 0 := fun k2 m2 h1 h2 => h k2 m2 h1 (by omega)
theorem NB.skip {A B : List Rat} {k m : Nat} (h : NB A B k m) (hz : A.getD k 0 = 0 ∨ B.getD m 0 = 0) : NB A B k (m + 1) := fun k2 m2 h1 h2 h3 h4 => by
  by_cases e : k2 = k ∧ m2 = m
  · obtain ⟨rfl, rfl⟩ := e
    rcases hz with hz | hz
    · exact absurd hz h3
    · exact absurd hz h4
  · exact h k2 m2 h1 (by omega) h3 h4
theorem NB.step {A B : List Rat} {k m : Nat} (h : NB A B k m) (hd : k / 13 + m / 13 + (k % 13 + m % 13) ≤ 12) : NB A B k (m + 1) := fun k2 m2 h1 h2 h3 h4 => by
  by_cases e : k2 = k ∧ m2 = m
  · obtain ⟨rfl, rfl⟩ := e; exact hd
  · exact h k2 m2 h1 (by omega) h3 h4
def PostE (v : Value) (Ψ : List SPred) : Prop := ∃ b l, v = .tuple #[.slice (some ⟨b, 0, none⟩) 169 169, .int .i64 9] ∧ l.length = 169 ∧ Eqv (pol (xs l)) [] ∧ Ψ = [Row (some ⟨b, 0, none⟩) (cellsOf encF l), AllF l]
def PostW (A B : List Rat) (v : Value) (Ψ : List SPred) : Prop := ∃ b l e, v = .tuple #[.slice (some ⟨b, 0, none⟩) 169 169, .int .i64 e] ∧ (e = 0 ∧ NB A B 169 0 ∧ l.length = 169 ∧ Eqv (pol (xs l)) (mulL (pol A) (pol B)) ∨ e = 9 ∧ badP A B ∧ l.length = 169 ∧ Eqv (pol (xs l)) []) ∧ Ψ = [Row (some ⟨b, 0, none⟩) (cellsOf encF l), AllF l]
structure TF where
  i : Int
  j : Int
  f : FT
def TF0 : TF := ⟨0, 0, FT0⟩
abbrev encTF (t : TF) : Value := .agg #[.int .i64 t.i, .int .i64 t.j, .bool (decide (t.f.x.num < 0)), .slice t.f.a1 (dg t.f.x.num.natAbs).length t.f.c1, .slice t.f.a2 (dg (t.f.x.den - 1)).length t.f.c2]
def tmF (t : TF) : Tm := ⟨t.i.toNat, t.j.toNat, t.f.x⟩
def OkIJ (t : TF) : Prop := (-9223372036854775808 ≤ t.i ∧ t.i ≤ 9223372036854775807) ∧ (-9223372036854775808 ≤ t.j ∧ t.j ≤ 9223372036854775807)
def erF (t : TF) : Int := if t.i < 0 ∨ t.j < 0 then 1 else if t.i > 12 ∨ t.j > 12 ∨ t.i + t.j > 12 then 9 else 0
def erL : List TF → Int
  | [] => 0
  | t :: l => if erF t = 0 then erL l else erF t
def PostTO (l : List TF) (v : Value) (Ψ : List SPred) : Prop := ∃ b lo, v = .tuple #[.slice (some ⟨b, 0, none⟩) 169 169, .int .i64 (erL l)] ∧ lo.length = 169 ∧ Eqv (pol (xs lo)) (if erL l = 0 then l.map tmF else []) ∧ Ψ = [Row (some ⟨b, 0, none⟩) (cellsOf encF lo), AllF lo]
end
section
def t3 (t : TF) : Int × Int × Rat := (t.i, t.j, t.f.x)
def tzB (d : Nat) (t : Ti) : Int × Int × Rat := (((brI d t : Nat) : Int), ((brJ d t : Nat) : Int), qv t.n t.d)
def tzI (t : Ti) : Int × Int × Rat := (t.i, t.j, qv t.n t.d)
def er3 (t : Int × Int × Rat) : Int := if t.1 < 0 ∨ t.2.1 < 0 then 1 else if t.1 > 12 ∨ t.2.1 > 12 ∨ t.1 + t.2.1 > 12 then 9 else 0
def erT : List (Int × Int × Rat) → Int
  | [] => 0
  | t :: l => if er3 t = 0 then erT l else er3 t
def tm3 (t : Int × Int × Rat) : Tm := ⟨t.1.toNat, t.2.1.toNat, t.2.2⟩
def PostRef (T : List (Int × Int × Rat)) (v : Value) (Ψ : List SPred) : Prop := ∃ b lo, v = .tuple #[.slice (some ⟨b, 0, none⟩) 169 169, .int .i64 (erT T)] ∧ lo.length = 169 ∧ Eqv (pol (xs lo)) (if erT T = 0 then T.map tm3 else []) ∧ Ψ = [Row (some ⟨b, 0, none⟩) (cellsOf encF lo), AllF lo]
end
end Go.Proofs.YtgkicbaomcmfoaaGreatDoor
