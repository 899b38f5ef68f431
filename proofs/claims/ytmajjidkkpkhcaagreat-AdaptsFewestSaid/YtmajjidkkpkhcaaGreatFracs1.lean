/- Written by a program of ours (gen.py) out of short specifications. By an AI agent. -/
import Derived.Test.YtmajjidkkpkhcaaGreatInts1
import Derived.Test.YtmajjidkkpkhcaaGreatFxZ
set_option linter.unusedVariables false
set_option linter.unusedSimpArgs false
set_option maxRecDepth 4000
namespace Go.Proofs.YtmajjidkkpkhcaaGreat
open Go Go.Proofs Go.Fx
attribute [local irreducible] Oper.wp Code.wp wpList Fx.Head wpOp
theorem cv_2_40 (x : Int) (w : World) : (Go.convert 2 40 (.int .i64 x)).run Tryz.prog w = .ok (.int .u64 (IntKind.u64.wrap x)) w := by
  simp [go_sem]
theorem bd_48_0 (x0_0 : Value) (x0_1 : Value) (x0_2 : Value) (w : World) : (Instr.build 48 [(0, .agg #[x0_0, x0_1, x0_2])].toArray).run Tryz.prog w = .ok (.agg #[x0_0, x0_1, x0_2, .int .u64 0, .string ⟨#[]⟩]) w := by simp [go_sem]
theorem st_5_0_5 (c0 c1 c2 c3 c4 v0 v1 v2 v3 v4 : Value) : setFrom #[c0, c1, c2, c3, c4] 0 [v0, v1, v2, v3, v4] = #[v0, v1, v2, v3, v4] := rfl
theorem rd_5_0_5 (c0 c1 c2 c3 c4 : Value) : readAt true 5 #[c0, c1, c2, c3, c4] 0 = some (.agg #[c0, c1, c2, c3, c4]) := rfl
theorem fa_48_1 (b off : Nat) (w : World) : (Instr.fieldAt 48 (.pointer (some ⟨b, off, none⟩)) 1).run Tryz.prog w = .ok (.pointer (some ⟨b, off + 3, none⟩)) w := by
  simp [go_sem]
theorem rd_5_3_2 (c0 c1 c2 c3 c4 : Value) : readAt true 2 #[c0, c1, c2, c3, c4] 3 = some (.agg #[c3, c4]) := rfl
theorem bd_48_0_1 (x0_0 : Value) (x0_1 : Value) (x0_2 : Value) (x1_0 : Value) (x1_1 : Value) (w : World) : (Instr.build 48 [(0, .agg #[x0_0, x0_1, x0_2]), (1, .agg #[x1_0, x1_1])].toArray).run Tryz.prog w = .ok (.agg #[x0_0, x0_1, x0_2, x1_0, x1_1]) w := by simp [go_sem]
theorem fa_48_0 (b off : Nat) (w : World) : (Instr.fieldAt 48 (.pointer (some ⟨b, off, none⟩)) 0).run Tryz.prog w = .ok (.pointer (some ⟨b, off + 0, none⟩)) w := by
  simp [go_sem]
theorem rd_5_0_3 (c0 c1 c2 c3 c4 : Value) : readAt true 3 #[c0, c1, c2, c3, c4] 0 = some (.agg #[c0, c1, c2]) := rfl
theorem mkRat_parts (n : Int) (d : Nat) (hd : d ≠ 0) : (mkRat n d).num = sgZ (decide (n.sign < 0)) (n.natAbs / n.natAbs.gcd d) ∧ (mkRat n d).den = d / n.natAbs.gcd d := by
  rw [← Rat.normalize_eq_mkRat hd, Rat.normalize_eq hd]
  refine ⟨?_, rfl⟩
  show n / ((n.natAbs.gcd d : Nat) : Int) = _
  unfold sgZ
  have hg : ((n.natAbs.gcd d : Nat) : Int) ∣ n := Int.ofNat_dvd_left.2 (Nat.gcd_dvd_left _ _)
  have hg0 : n.natAbs.gcd d ≠ 0 := fun h => hd (Nat.gcd_eq_zero_iff.1 h).2
  have hdv := Nat.gcd_dvd_left n.natAbs d
  generalize n.natAbs.gcd d = g at *
  obtain ⟨k, hk⟩ := hdv
  rw [hk, Nat.mul_div_cancel_left k (Nat.pos_of_ne_zero hg0)]
  by_cases h : n < 0
  · have h2 : n.sign < 0 := by rw [Int.sign_eq_neg_one_of_neg h]; decide
    simp only [h2, decide_true, if_true]
    have : n = (g : Int) * -(k : Int) := by rw [Int.mul_neg, ← Int.natCast_mul, ← hk]; omega
    rw [this, Int.mul_ediv_cancel_left _ (by omega)]
  · have h2 : ¬ n.sign < 0 := by
      rcases Int.lt_or_eq_of_le (Int.not_lt.1 h) with h3 | h3
      · rw [Int.sign_eq_one_of_pos h3]; decide
      · rw [← h3]; decide
    simp only [h2, decide_false, Bool.false_eq_true, if_false]
    have : n = (g : Int) * (k : Int) := by rw [← Int.natCast_mul, ← hk]; omega
    rw [this, Int.mul_ediv_cancel_left _ (by omega)]

def lenQ (q : Rat) : Nat := max (lenZ q.num) (wds q.den).length
theorem lenQ_le {q : Rat} {k : Nat} (h : lenQ q ≤ k) : lenZ q.num ≤ k ∧ (wds q.den).length ≤ k := by unfold lenQ at h; omega

theorem wds_ge {n : Nat} (h : n ≠ 0) : 4294967296 ^ ((wds n).length - 1) ≤ n := by
  have hne : wds n ≠ [] := fun e => h (by rw [← valW_wds n, e]; rfl)
  have h2 := valW_wds n
  rw [← List.dropLast_concat_getLast hne, valW_append] at h2
  have h3 := wds_last _ hne
  simp only [valW, List.length_dropLast, Nat.mul_zero, Nat.add_zero] at h2
  have h5 : 4294967296 ^ ((wds n).length - 1) * 1 ≤ 4294967296 ^ ((wds n).length - 1) * (wds n).getLast hne := Nat.mul_le_mul_left _ (by omega)
  omega
theorem wds_len_le {n k : Nat} (h : n < 4294967296 ^ k) : (wds n).length ≤ k := by
  by_cases h0 : n = 0
  · subst h0; simp [wds_zero]
  · have h1 := wds_ge h0
    have h2 := (Nat.pow_lt_pow_iff_right (a := 4294967296) (by decide)).1 (Nat.lt_of_le_of_lt h1 h)
    omega
theorem wds_lt_pow (n : Nat) : n < 4294967296 ^ (wds n).length := by
  have := valW_lt (Wd.wds n); rwa [valW_wds] at this
theorem wds_len_mul (n m : Nat) : (wds (n * m)).length ≤ (wds n).length + (wds m).length :=
  wds_len_le (by rw [Nat.pow_add]; exact Nat.mul_lt_mul'' (wds_lt_pow n) (wds_lt_pow m))
theorem wds_len_add (n m : Nat) : (wds (n + m)).length ≤ max (wds n).length (wds m).length + 1 := wds_len_le (by
  have h1 := wds_lt_pow n
  have h2 := wds_lt_pow m
  have h3 : 4294967296 ^ (wds n).length ≤ 4294967296 ^ max (wds n).length (wds m).length := Nat.pow_le_pow_right (by decide) (by omega)
  have h4 : 4294967296 ^ (wds m).length ≤ 4294967296 ^ max (wds n).length (wds m).length := Nat.pow_le_pow_right (by decide) (by omega)
  rw [Nat.pow_succ]; omega)
theorem lenZ_mul (x y : Int) : lenZ (x * y) ≤ lenZ x + lenZ y := by unfold lenZ; rw [Int.natAbs_mul]; exact wds_len_mul _ _
theorem lenZ_add (x y : Int) : lenZ (x + y) ≤ max (lenZ x) (lenZ y) + 1 := by
  unfold lenZ; exact Nat.le_trans (wds_len_mono (Int.natAbs_add_le x y)) (wds_len_add _ _)
theorem lenQ_mkRat (n : Int) (d : Nat) (hd : d ≠ 0) : lenQ (mkRat n d) ≤ max (lenZ n) (wds d).length := by
  obtain ⟨h1, h2⟩ := mkRat_parts n d hd
  unfold lenQ lenZ
  rw [h1, h2, sgZ_abs]
  have a1 := wds_len_mono (Nat.div_le_self n.natAbs (n.natAbs.gcd d))
  have a2 := wds_len_mono (Nat.div_le_self d (n.natAbs.gcd d))
  omega
theorem lenQ_add (a b : Rat) : lenQ (a + b) ≤ lenQ a + lenQ b + 1 := by
  rw [Rat.add_def']
  have h := lenQ_mkRat (a.num * b.den + b.num * a.den) (a.den * b.den) (Nat.mul_ne_zero a.den_nz b.den_nz)
  have h1 := lenZ_add (a.num * b.den) (b.num * a.den)
  have h2 := lenZ_mul a.num b.den
  have h3 := lenZ_mul b.num a.den
  have h4 := wds_len_mul a.den b.den
  have e1 : lenZ (a.den : Int) = (wds a.den).length := rfl
  have e2 : lenZ (b.den : Int) = (wds b.den).length := rfl
  unfold lenQ at h ⊢
  omega
theorem lenQ_mul (a b : Rat) : lenQ (a * b) ≤ lenQ a + lenQ b := by
  rw [Rat.mul_def']
  have h := lenQ_mkRat (a.num * b.num) (a.den * b.den) (Nat.mul_ne_zero a.den_nz b.den_nz)
  have h2 := lenZ_mul a.num b.num
  have h4 := wds_len_mul a.den b.den
  unfold lenQ at h ⊢
  omega
theorem add_same {a b : Rat} (h : a.den = b.den) : mkRat (a.num + b.num) a.den = a + b := by
  rw [Rat.add_def', ← h, ← Int.add_mul, Rat.mkRat_mul_right a.den_nz]
theorem add_whole {a b : Rat} (ha : a.den = 1) (hb : b.den = 1) : ((a.num + b.num : Int) : Rat) = a + b := by
  rw [← add_same (a := a) (b := b) (by omega), ha, Rat.mkRat_one]
theorem mul_whole {a b : Rat} (ha : a.den = 1) (hb : b.den = 1) : ((a.num * b.num : Int) : Rat) = a * b := by
  rw [Rat.mul_def', ha, hb, Nat.mul_one, Rat.mkRat_one]
theorem inv_mkRat (y : Rat) (hy : y ≠ 0) : mkRat (sgZ (decide (y.num.sign < 0)) y.den) y.num.natAbs = y⁻¹ := by
  rw [Rat.inv_def]
  have h0 : y.num ≠ 0 := fun h => hy (Rat.num_eq_zero.1 h)
  unfold sgZ
  generalize y.num = m at *
  rcases Int.lt_or_gt_of_ne h0 with h | h
  · have h2 : m.sign < 0 := by rw [Int.sign_eq_neg_one_of_neg h]; decide
    simp only [h2, decide_true, if_true]
    obtain ⟨k, rfl⟩ : ∃ k : Nat, m = -(k : Int) := ⟨m.natAbs, by omega⟩
    have e : Rat.divInt (y.den : Int) (-(k : Int)) = Rat.divInt (-(y.den : Int)) (k : Int) := by
      have := Rat.neg_divInt_neg (-(y.den : Int)) (k : Int)
      rwa [Int.neg_neg] at this
    rw [e, Rat.divInt_ofNat, Int.natAbs_neg, Int.natAbs_natCast]
  · have h2 : ¬ m.sign < 0 := by rw [Int.sign_eq_one_of_pos h]; decide
    simp only [h2, decide_false, Bool.false_eq_true, if_false]
    obtain ⟨k, rfl⟩ : ∃ k : Nat, m = (k : Int) := ⟨m.natAbs, by omega⟩
    rw [Rat.divInt_ofNat, Int.natAbs_natCast]


theorem run_neg64 (x : Int) (w : World) : (Op.unary .neg (.int .u64 x)).run Tryz.prog w = .ok (.int .u64 (IntKind.u64.wrap (0 - x))) w := by simp [Op.unary, Op.intArith]

theorem C_ZOf (n : Int) (h0 : -9223372036854775808 ≤ n) (h1 : n ≤ 9223372036854775807) : CtrV Tryz.prog 50 [.int .i64 n] (encZ n) := by
  refine fn_intro Tryz.func50 rfl Tryz.ntmps50 nb ?_
  intro S w0 a hS h
  refine gC h (zs (zr (zz Tryz.zeroValue46 fun b2 => zn (zs (zs (zr (zm rfl (zp (.lss rfl rfl) (zn ?_))))))))); clear h; intro a w h
  change Code.wp _ _ _ _ _
  refine cond_split h rfl (fun hc4 => ?_) (fun hc4 => ?_)
  · skip
    have hn : n < 0 := of_decide_eq_true hc4
    refine gC h (zs (zr (zm rfl (zp (.convert rfl (cv_2_40 _)) (zp (.unOp rfl (fun w => by rw [run_neg64, wrap_u64_mod, wrap_u64_mod, show (0 - n % 18446744073709551616) % 18446744073709551616 = ((n.natAbs : Nat) : Int) by omega])) (zv [_] rfl Tryz.call74 (C_Of n.natAbs (by omega)) (zv [_, _] rfl Tryz.call75 (C_From true n.natAbs) (zt' rfl rfl (st_3_0_3 _ _ _ _ _ _) uu Tryz.sizeOf46 rfl nb rfl ?_)))))))); clear h; intro a w h
    refine wpList_nil (wp_ret ?_)
    refine retV h (results1 h rfl (.cell rfl mr Tryz.isAgg46 Tryz.sizeOf46 (rd_3_0_3 _ _ _))) ?_
    rw [show sgZ true n.natAbs = n from by unfold sgZ; simp; omega]
  · skip
    have hn : ¬ n < 0 := of_decide_eq_false hc4
    refine gC h (zk (zs (zr (zm rfl (zp (Pure1.cast (v' := .int .u64 ((n.natAbs : Nat) : Int)) (.convert rfl (cv_2_40 _)) (by rw [wrap_u64_mod]; congr 1; omega)) (zv [_] rfl Tryz.call74 (C_Of n.natAbs (by omega)) (zv [_, _] rfl Tryz.call75 (C_From false n.natAbs) (zt' rfl rfl (st_3_0_3 _ _ _ _ _ _) uu Tryz.sizeOf46 rfl nb rfl ?_)))))))); clear h; intro a w h
    refine wpList_nil (wp_ret ?_)
    refine retV h (results1 h rfl (.cell rfl mr Tryz.isAgg46 Tryz.sizeOf46 (rd_3_0_3 _ _ _))) ?_
    rw [show sgZ false n.natAbs = n from by unfold sgZ; simp; omega]

theorem C_whole (n : Int) : CtrV Tryz.prog 39 [encZ n] (encQ (n : Rat)) := by
  refine fn_intro Tryz.func39 rfl Tryz.ntmps39 nb ?_
  intro S w0 a hS h
  refine gC h (zs (zr (zx rfl fun b1 => zz Tryz.zeroValue48 fun b2 => zn (zs (zr (zd rfl mr Tryz.isAgg46 Tryz.sizeOf46 (rd_3_0_3 _ _ _) ?_)))))); clear h; intro a w h
  refine gL h (zp (.build [(_, _)] rfl (bd_48_0 _ _ _)) (zt' rfl rfl (st_5_0_5 _ _ _ _ _ _ _ _ _ _) uu Tryz.sizeOf48 rfl nb rfl ?_)); clear h; intro a w h
  refine wpList_nil (wp_ret ?_)
  refine retV h (results1 h rfl (.cell rfl mr Tryz.isAgg48 Tryz.sizeOf48 (rd_5_0_5 _ _ _ _ _))) ?_
  rfl

theorem C_Whole (x : Rat) : CtrV Tryz.prog 38 [encQ x] (.bool (decide (x.den = 1))) := by
  refine fn_intro Tryz.func38 rfl Tryz.ntmps38 nb ?_
  intro S w0 a hS h
  refine gC h (zs (zr (zx rfl fun b1 => za rfl (zn (zs (zr (zp (.fieldAddr rfl (fa_48_1 _ _)) (zd rfl mr Tryz.isAgg42 Tryz.sizeOf42 (rd_5_3_2 _ _ _ _ _) ?_)))))))); clear h; intro a w h
  refine gL h (zp (Pure1.cast (v' := encN 0) (.build [] rfl (bd_42_z)) (by rfl)) (zp (.binOp rfl rfl (fun _ => run_eqN _ _ (x.den - 1) 0 _)) (za rfl (zn (zt ?_))))); clear h; intro a w h
  refine retV h (results1 h rfl (.tmp rfl)) ?_
  have := x.den_pos; show Value.bool _ = Value.bool _; congr 1; apply decide_eq_decide.2; omega

theorem C_den (x : Rat) (h0 : (wds x.den).length ≤ 400000000000) : CtrV Tryz.prog 43 [encQ x] (encN x.den) := by
  refine fn_intro Tryz.func43 rfl Tryz.ntmps43 nb ?_
  intro S w0 a hS h
  refine gC h (zs (zr (zx rfl fun b1 => zz Tryz.zeroValue42 fun b2 => zn (zs (yD mixed_YtmajjidkkpkhcaaGreat [0, 1, 2, 3, 4] (floatsOK_none (by kernel_rfl)) (yp rfl (.fieldAddr rfl (fa_48_1 _ _)) (yd rfl rfl mr Tryz.isAgg42 Tryz.sizeOf42 (rd_5_3_2 _ _ _ _ _) ?_))))))); clear h
  refine yv [_] rfl rfl Tryz.call74 (C_Of 1 (by decide)) (yv [_, _] rfl rfl Tryz.call79 (C_Add (x.den - 1) 1 (Nat.le_trans (wds_len_mono (Nat.sub_le _ _)) (by omega)) (Nat.le_trans (wds_small (by decide)) (by decide))) (yt rfl rfl rfl (st_2_0_2 _ _ _ _) uu Tryz.sizeOf42 rfl nb rfl ?_))
  refine yn (zt ?_); intro a w h
  refine retV h (results1 h rfl (.cell rfl mr Tryz.isAgg42 Tryz.sizeOf42 (rd_2_0_2 _ _))) ?_
  rw [Nat.sub_add_cancel x.den_pos]

theorem C_signed (x : Rat) (h0 : (wds x.den).length ≤ 400000000000) : CtrV Tryz.prog 47 [encQ x] (encZ (x.den : Int)) := by
  refine fn_intro Tryz.func47 rfl Tryz.ntmps47 nb ?_
  intro S w0 a hS h
  refine gC h (zs (zr (zx rfl fun b1 => zz Tryz.zeroValue46 fun b2 => zn (zs (zr (zd rfl mr Tryz.isAgg48 Tryz.sizeOf48 (rd_5_0_5 _ _ _ _ _) ?_)))))); clear h; intro a w h
  refine gL h (zv [_] rfl Tryz.call43 (C_den x h0) (zv [_, _] rfl Tryz.call75 (C_From false x.den) (zt' rfl rfl (st_3_0_3 _ _ _ _ _ _) uu Tryz.sizeOf46 rfl nb rfl ?_))); clear h; intro a w h
  refine wpList_nil (wp_ret ?_)
  refine retV h (results1 h rfl (.cell rfl mr Tryz.isAgg46 Tryz.sizeOf46 (rd_3_0_3 _ _ _))) ?_
  rfl

theorem C_lowest (n : Int) (d : Nat) (hd : d ≠ 0) (hn : lenZ n ≤ 400000000000) (hdl : (wds d).length ≤ 400000000000) : CtrV Tryz.prog 41 [encZ n, encN d] (encQ (mkRat n d)) := by
  unfold lenZ at hn
  have hg0 : n.natAbs.gcd d ≠ 0 := fun h => hd (Nat.gcd_eq_zero_iff.1 h).2
  have hgl : (wds (n.natAbs.gcd d)).length ≤ 400000000000 := Nat.le_trans (wds_len_mono (Nat.gcd_le_right _ (Nat.pos_of_ne_zero hd))) hdl
  have hq : 1 ≤ d / n.natAbs.gcd d := Nat.div_pos (Nat.gcd_le_right _ (Nat.pos_of_ne_zero hd)) (Nat.pos_of_ne_zero hg0)
  have hql : (wds (d / n.natAbs.gcd d)).length ≤ 400000000000 := Nat.le_trans (wds_len_mono (Nat.div_le_self _ _)) hdl
  obtain ⟨hm1, hm2⟩ := mkRat_parts n d hd
  refine fn_intro Tryz.func41 rfl Tryz.ntmps41 nb ?_
  intro S w0 a hS h
  refine gC h (zs (zr (zx rfl fun b2 => zx rfl fun b3 => zz Tryz.zeroValue48 fun b4 => zn (zs (yD mixed_YtmajjidkkpkhcaaGreat [0, 2, 1, 3, 4, 5] (floatsOK_of ⟨.inl rfl, .inl rfl, .inl rfl, .inl rfl, .inr ⟨5, 42, _, _, _, rfl, rfl, by decide, _, Tryz.zeroValue42⟩, .inl rfl, trivial⟩) (yd rfl rfl mr Tryz.isAgg46 Tryz.sizeOf46 (rd_3_0_3 _ _ _) ?_)))))); clear h
  refine yd rfl rfl mr Tryz.isAgg42 Tryz.sizeOf42 (rd_2_0_2 _ _) ?_
  refine yv [_] rfl rfl Tryz.call71 (C_ZAbs n) (yv [_, _] rfl rfl Tryz.call70 (C_Gcd _ _ (by omega) (by omega)) (yz rfl Tryz.zeroValue42 fun b5 => yt rfl rfl rfl (st_2_0_2 _ _ _ _) uu Tryz.sizeOf42 rfl nb rfl ?_))
  refine yn (zs (yD mixed_YtmajjidkkpkhcaaGreat [0, 2, 1, 3, 4, 5, 6, 7, 8, 9, 10, 11, 12] (floatsOK_of ⟨.inl rfl, .inl rfl, .inl rfl, .inl rfl, .inl rfl, .inl rfl, .inl rfl, .inl rfl, .inr ⟨6, 42, _, _, _, rfl, rfl, by decide, _, Tryz.zeroValue42⟩, .inr ⟨7, 42, _, _, _, rfl, rfl, by decide, _, Tryz.zeroValue42⟩, .inl rfl, .inl rfl, .inl rfl, trivial⟩) (yd rfl rfl mr Tryz.isAgg46 Tryz.sizeOf46 (rd_3_0_3 _ _ _) ?_)))
  refine yd rfl rfl mr Tryz.isAgg42 Tryz.sizeOf42 (rd_2_0_2 _ _) ?_
  refine yv [_] rfl rfl Tryz.call71 (C_ZAbs n) (yv [_, _] rfl rfl Tryz.call72 (C_Div n.natAbs (n.natAbs.gcd d) (by omega) (by omega) hg0) (yp rfl (.move rfl) (yp rfl (.extract rfl (fun _ => rfl)) (yp rfl (.extract rfl (fun _ => rfl)) (yp rfl (.extract rfl (fun _ => rfl)) (yz rfl Tryz.zeroValue42 fun b6 => yz rfl Tryz.zeroValue42 fun b7 => yt rfl rfl rfl (st_2_0_2 _ _ _ _) uu Tryz.sizeOf42 rfl nb rfl ?_))))))
  refine yt rfl rfl rfl (st_2_0_2 _ _ _ _) uu Tryz.sizeOf42 rfl nb rfl ?_
  refine yp rfl (.assign rfl) (yn (zs (zr (zd rfl mr Tryz.isAgg42 Tryz.sizeOf42 (rd_2_0_2 _ _) ?_)))); intro a w h
  refine gL h (zd rfl mr Tryz.isAgg42 Tryz.sizeOf42 (rd_2_0_2 _ _) ?_); clear h; intro a w h
  refine gL h (zv [_, _] rfl Tryz.call72 (C_Div d (n.natAbs.gcd d) (by omega) (by omega) hg0) (zm rfl (zp (.extract rfl (fun _ => rfl)) (zp (.extract rfl (fun _ => rfl)) (zp (.extract rfl (fun _ => rfl)) (zz Tryz.zeroValue42 fun b9 => zz Tryz.zeroValue42 fun b10 => zt' rfl rfl (st_2_0_2 _ _ _ _) uu Tryz.sizeOf42 rfl nb rfl ?_)))))); clear h; intro a w h
  refine gL h (zt' rfl rfl (st_2_0_2 _ _ _ _) uu Tryz.sizeOf42 rfl nb rfl ?_); clear h; intro a w h
  refine gL h (za rfl (zn (zs (yD mixed_YtmajjidkkpkhcaaGreat [0, 1, 2, 3, 4, 5, 6] (floatsOK_none (by kernel_rfl)) (yd rfl rfl mr Tryz.isAgg42 Tryz.sizeOf42 (rd_2_0_2 _ _) ?_))))); clear h
  refine yv [_] rfl rfl Tryz.call74 (C_Of 1 (by decide)) (yv [_, _] rfl rfl Tryz.call73 (C_Sub _ 1 (by omega) (Nat.le_trans (wds_small (by decide)) (by decide))) (yp rfl (.move rfl) (yp rfl (.extract rfl (fun _ => rfl)) (yp rfl (.extract rfl (fun _ => rfl)) (yt rfl rfl rfl (st_2_0_2 _ _ _ _) uu Tryz.sizeOf42 rfl nb rfl ?_)))))
  refine yn (zs (yD mixed_YtmajjidkkpkhcaaGreat [0, 3, 5, 1, 2, 4, 6, 7] (floatsOK_none (by kernel_rfl)) (yd rfl rfl mr Tryz.isAgg46 Tryz.sizeOf46 (rd_3_0_3 _ _ _) ?_)))
  refine yd rfl rfl mr Tryz.isAgg42 Tryz.sizeOf42 (rd_2_0_2 _ _) ?_
  refine yd rfl rfl mr Tryz.isAgg42 Tryz.sizeOf42 (rd_2_0_2 _ _) ?_
  refine yv [_] rfl rfl Tryz.call53 (C_ZSign n) (yp rfl (.lss rfl rfl) (yv [_, _] rfl rfl Tryz.call75 (C_From _ _) (yp rfl (.build [(_, _), (_, _)] rfl (bd_48_0_1 _ _ _ _ _)) (yt rfl rfl rfl (st_5_0_5 _ _ _ _ _ _ _ _ _ _) uu Tryz.sizeOf48 rfl nb rfl ?_))))
  refine yn (zt ?_); intro a w h
  refine retV h (results1 h rfl (.cell rfl mr Tryz.isAgg48 Tryz.sizeOf48 (rd_5_0_5 _ _ _ _ _))) ?_
  rw [encQ, hm1, hm2]

theorem C_QAdd (x y : Rat) (ha : lenQ x ≤ 100000000000) (hb : lenQ y ≤ 100000000000) : CtrV Tryz.prog 14 [encQ x, encQ y] (encQ (x + y)) := by
  obtain ⟨ha1, ha2⟩ := lenQ_le ha
  obtain ⟨hb1, hb2⟩ := lenQ_le hb
  have hm1 := lenZ_mul x.num (y.den : Int)
  have hm2 := lenZ_mul y.num (x.den : Int)
  have hs := lenZ_add (x.num * (y.den : Int)) (y.num * (x.den : Int))
  have hs2 := lenZ_add x.num y.num
  have hda : lenZ (x.den : Int) = (wds x.den).length := rfl
  have hdb : lenZ (y.den : Int) = (wds y.den).length := rfl
  have hdm := wds_len_mul x.den y.den
  have hpa := x.den_pos
  have hpb := y.den_pos
  refine fn_intro Tryz.func14 rfl Tryz.ntmps14 nb ?_
  intro S w0 a hS h
  refine gC h (zs (zr (zx rfl fun b2 => zx rfl fun b3 => zz Tryz.zeroValue48 fun b4 => zn (zs (zb (zs (zr (zd rfl mr Tryz.isAgg48 Tryz.sizeOf48 (rd_5_0_5 _ _ _ _ _) ?_)))))))); clear h; intro a w h
  refine gL h (zv [_] rfl Tryz.call38 (C_Whole x) (zm rfl ?_)); clear h; intro a w h
  refine by_bool h (fun hc8 h => ?_) (fun hc8 h => ?_)
  · skip
    have hwa : x.den = 1 := of_decide_eq_true hc8
    refine wpl_guard 8 h rfl rfl (op_load h rfl mr Tryz.isAgg48 Tryz.sizeOf48 (rd_5_0_5 _ _ _ _ _) (by decide) ?_); clear h; intro a h
    refine wpl_guard 8 h rfl rfl (op_callV h (vs := [_]) rfl Tryz.call38 (C_Whole y) (by decide) ?_); clear h; intro a w h
    refine by_bool h (fun hc10 h => ?_) (fun hc10 h => ?_)
    · skip
      have hwb : y.den = 1 := of_decide_eq_true hc10
      refine gL h (zp (.pickT rfl rfl) (za rfl (zn ?_))); clear h; intro a w h
      change Code.wp _ _ _ _ _
      refine cond_true h rfl ?_
      refine gC h (zs (zr (zp (.fieldAddr rfl (fa_48_0 _ _)) (zd rfl mr Tryz.isAgg46 Tryz.sizeOf46 (rd_5_0_3 _ _ _ _ _) ?_)))); clear h; intro a w h
      refine gL h (zp (.fieldAddr rfl (fa_48_0 _ _)) (zd rfl mr Tryz.isAgg46 Tryz.sizeOf46 (rd_5_0_3 _ _ _ _ _) ?_)); clear h; intro a w h
      refine gL h (zv [_, _] rfl Tryz.call46 (C_ZAdd _ _ (by omega) (by omega)) (zv [_] rfl Tryz.call39 (C_whole _) (zt' rfl rfl (st_5_0_5 _ _ _ _ _ _ _ _ _ _) uu Tryz.sizeOf48 rfl nb rfl ?_))); clear h; intro a w h
      refine wpList_nil (wp_ret ?_)
      refine retV h (results1 h rfl (.cell rfl mr Tryz.isAgg48 Tryz.sizeOf48 (rd_5_0_5 _ _ _ _ _))) ?_
      rw [show ((x.num + y.num : Int) : Rat) = x + y from add_whole hwa hwb]
    · skip
      have hwb : y.den ≠ 1 := of_decide_eq_false hc10
      refine gL h (zp (.pickT rfl rfl) (za rfl (zn ?_))); clear h; intro a w h
      change Code.wp _ _ _ _ _
      refine cond_false h rfl ?_
      refine gC h (zs (zr (zp (.fieldAddr rfl (fa_48_1 _ _)) (zd rfl mr Tryz.isAgg42 Tryz.sizeOf42 (rd_5_3_2 _ _ _ _ _) ?_)))); clear h; intro a w h
      refine gL h (zp (.fieldAddr rfl (fa_48_1 _ _)) (zd rfl mr Tryz.isAgg42 Tryz.sizeOf42 (rd_5_3_2 _ _ _ _ _) ?_)); clear h; intro a w h
      refine gL h (zp (.binOp rfl rfl (fun _ => run_eqN _ _ (x.den - 1) (y.den - 1) _)) ?_); clear h; intro a w h
      refine by_bool h (fun hc23 h => ?_) (fun hc23 h => ?_)
      · skip
        have hde : x.den = y.den := by have := of_decide_eq_true hc23; omega
        refine gL h (za rfl (zn ?_)); clear h; intro a w h
        change Code.wp _ _ _ _ _
        refine cond_true h rfl ?_
        refine gC h (zs (yD mixed_YtmajjidkkpkhcaaGreat [0, 1, 2, 3, 5, 4, 6, 7, 8] (floatsOK_none (by kernel_rfl)) (yp rfl (.fieldAddr rfl (fa_48_0 _ _)) (yd rfl rfl mr Tryz.isAgg46 Tryz.sizeOf46 (rd_5_0_3 _ _ _ _ _) ?_)))); clear h
        refine yp rfl (.fieldAddr rfl (fa_48_0 _ _)) (yd rfl rfl mr Tryz.isAgg46 Tryz.sizeOf46 (rd_5_0_3 _ _ _ _ _) ?_)
        refine yd rfl rfl mr Tryz.isAgg48 Tryz.sizeOf48 (rd_5_0_5 _ _ _ _ _) ?_
        refine yv [_, _] rfl rfl Tryz.call46 (C_ZAdd _ _ (by omega) (by omega)) (yv [_] rfl rfl Tryz.call43 (C_den x (by omega)) (yv [_, _] rfl rfl Tryz.call41 (C_lowest _ _ (by omega) (by omega) (by omega)) (yt rfl rfl rfl (st_5_0_5 _ _ _ _ _ _ _ _ _ _) uu Tryz.sizeOf48 rfl nb rfl ?_)))
        refine yn (zt ?_); intro a w h
        refine retV h (results1 h rfl (.cell rfl mr Tryz.isAgg48 Tryz.sizeOf48 (rd_5_0_5 _ _ _ _ _))) ?_
        rw [show mkRat (x.num + y.num) x.den = x + y from add_same hde]
      · skip
        have hde : x.den ≠ y.den := by have := of_decide_eq_false hc23; omega
        refine gL h (za rfl (zn ?_)); clear h; intro a w h
        change Code.wp _ _ _ _ _
        refine cond_false h rfl ?_
        refine gC h (zk (zs (yD mixed_YtmajjidkkpkhcaaGreat [0, 1, 2, 5, 6, 7, 11, 13, 3, 4, 8, 9, 10, 12, 14, 15, 16, 17] (floatsOK_none (by kernel_rfl)) (yp rfl (.fieldAddr rfl (fa_48_0 _ _)) (yd rfl rfl mr Tryz.isAgg46 Tryz.sizeOf46 (rd_5_0_3 _ _ _ _ _) ?_))))); clear h
        refine yd rfl rfl mr Tryz.isAgg48 Tryz.sizeOf48 (rd_5_0_5 _ _ _ _ _) ?_
        refine yp rfl (.fieldAddr rfl (fa_48_0 _ _)) (yd rfl rfl mr Tryz.isAgg46 Tryz.sizeOf46 (rd_5_0_3 _ _ _ _ _) ?_)
        refine yd rfl rfl mr Tryz.isAgg48 Tryz.sizeOf48 (rd_5_0_5 _ _ _ _ _) ?_
        refine yd rfl rfl mr Tryz.isAgg48 Tryz.sizeOf48 (rd_5_0_5 _ _ _ _ _) ?_
        refine yd rfl rfl mr Tryz.isAgg48 Tryz.sizeOf48 (rd_5_0_5 _ _ _ _ _) ?_
        refine yv [_] rfl rfl Tryz.call47 (C_signed y (by omega)) (yv [_, _] rfl rfl Tryz.call40 (C_ZMul _ _ (by omega) (by omega)) (yv [_] rfl rfl Tryz.call47 (C_signed x (by omega)) (yv [_, _] rfl rfl Tryz.call40 (C_ZMul _ _ (by omega) (by omega)) (yv [_, _] rfl rfl Tryz.call46 (C_ZAdd _ _ (by omega) (by omega)) (yv [_] rfl rfl Tryz.call43 (C_den x (by omega)) (yv [_] rfl rfl Tryz.call43 (C_den y (by omega)) (yv [_, _] rfl rfl Tryz.call42 (C_Mul _ _ (by omega) (by omega)) (yv [_, _] rfl rfl Tryz.call41 (C_lowest _ _ (Nat.mul_ne_zero (by omega) (by omega)) (by omega) (by omega)) (yt rfl rfl rfl (st_5_0_5 _ _ _ _ _ _ _ _ _ _) uu Tryz.sizeOf48 rfl nb rfl ?_)))))))))
        refine yn (zt ?_); intro a w h
        refine retV h (results1 h rfl (.cell rfl mr Tryz.isAgg48 Tryz.sizeOf48 (rd_5_0_5 _ _ _ _ _))) ?_
        rw [Rat.add_def']
  · skip
    have hwa : x.den ≠ 1 := of_decide_eq_false hc8
    refine gL h (zo 8 rfl rfl rfl (zo 8 rfl rfl rfl (zp (.pickF rfl rfl) (za rfl (zn ?_))))); clear h; intro a w h
    change Code.wp _ _ _ _ _
    refine cond_false h rfl ?_
    refine gC h (zs (zr (zp (.fieldAddr rfl (fa_48_1 _ _)) (zd rfl mr Tryz.isAgg42 Tryz.sizeOf42 (rd_5_3_2 _ _ _ _ _) ?_)))); clear h; intro a w h
    refine gL h (zp (.fieldAddr rfl (fa_48_1 _ _)) (zd rfl mr Tryz.isAgg42 Tryz.sizeOf42 (rd_5_3_2 _ _ _ _ _) ?_)); clear h; intro a w h
    refine gL h (zp (.binOp rfl rfl (fun _ => run_eqN _ _ (x.den - 1) (y.den - 1) _)) ?_); clear h; intro a w h
    refine by_bool h (fun hc23 h => ?_) (fun hc23 h => ?_)
    · skip
      have hde : x.den = y.den := by have := of_decide_eq_true hc23; omega
      refine gL h (za rfl (zn ?_)); clear h; intro a w h
      change Code.wp _ _ _ _ _
      refine cond_true h rfl ?_
      refine gC h (zs (yD mixed_YtmajjidkkpkhcaaGreat [0, 1, 2, 3, 5, 4, 6, 7, 8] (floatsOK_none (by kernel_rfl)) (yp rfl (.fieldAddr rfl (fa_48_0 _ _)) (yd rfl rfl mr Tryz.isAgg46 Tryz.sizeOf46 (rd_5_0_3 _ _ _ _ _) ?_)))); clear h
      refine yp rfl (.fieldAddr rfl (fa_48_0 _ _)) (yd rfl rfl mr Tryz.isAgg46 Tryz.sizeOf46 (rd_5_0_3 _ _ _ _ _) ?_)
      refine yd rfl rfl mr Tryz.isAgg48 Tryz.sizeOf48 (rd_5_0_5 _ _ _ _ _) ?_
      refine yv [_, _] rfl rfl Tryz.call46 (C_ZAdd _ _ (by omega) (by omega)) (yv [_] rfl rfl Tryz.call43 (C_den x (by omega)) (yv [_, _] rfl rfl Tryz.call41 (C_lowest _ _ (by omega) (by omega) (by omega)) (yt rfl rfl rfl (st_5_0_5 _ _ _ _ _ _ _ _ _ _) uu Tryz.sizeOf48 rfl nb rfl ?_)))
      refine yn (zt ?_); intro a w h
      refine retV h (results1 h rfl (.cell rfl mr Tryz.isAgg48 Tryz.sizeOf48 (rd_5_0_5 _ _ _ _ _))) ?_
      rw [show mkRat (x.num + y.num) x.den = x + y from add_same hde]
    · skip
      have hde : x.den ≠ y.den := by have := of_decide_eq_false hc23; omega
      refine gL h (za rfl (zn ?_)); clear h; intro a w h
      change Code.wp _ _ _ _ _
      refine cond_false h rfl ?_
      refine gC h (zk (zs (yD mixed_YtmajjidkkpkhcaaGreat [0, 1, 2, 5, 6, 7, 11, 13, 3, 4, 8, 9, 10, 12, 14, 15, 16, 17] (floatsOK_none (by kernel_rfl)) (yp rfl (.fieldAddr rfl (fa_48_0 _ _)) (yd rfl rfl mr Tryz.isAgg46 Tryz.sizeOf46 (rd_5_0_3 _ _ _ _ _) ?_))))); clear h
      refine yd rfl rfl mr Tryz.isAgg48 Tryz.sizeOf48 (rd_5_0_5 _ _ _ _ _) ?_
      refine yp rfl (.fieldAddr rfl (fa_48_0 _ _)) (yd rfl rfl mr Tryz.isAgg46 Tryz.sizeOf46 (rd_5_0_3 _ _ _ _ _) ?_)
      refine yd rfl rfl mr Tryz.isAgg48 Tryz.sizeOf48 (rd_5_0_5 _ _ _ _ _) ?_
      refine yd rfl rfl mr Tryz.isAgg48 Tryz.sizeOf48 (rd_5_0_5 _ _ _ _ _) ?_
      refine yd rfl rfl mr Tryz.isAgg48 Tryz.sizeOf48 (rd_5_0_5 _ _ _ _ _) ?_
      refine yv [_] rfl rfl Tryz.call47 (C_signed y (by omega)) (yv [_, _] rfl rfl Tryz.call40 (C_ZMul _ _ (by omega) (by omega)) (yv [_] rfl rfl Tryz.call47 (C_signed x (by omega)) (yv [_, _] rfl rfl Tryz.call40 (C_ZMul _ _ (by omega) (by omega)) (yv [_, _] rfl rfl Tryz.call46 (C_ZAdd _ _ (by omega) (by omega)) (yv [_] rfl rfl Tryz.call43 (C_den x (by omega)) (yv [_] rfl rfl Tryz.call43 (C_den y (by omega)) (yv [_, _] rfl rfl Tryz.call42 (C_Mul _ _ (by omega) (by omega)) (yv [_, _] rfl rfl Tryz.call41 (C_lowest _ _ (Nat.mul_ne_zero (by omega) (by omega)) (by omega) (by omega)) (yt rfl rfl rfl (st_5_0_5 _ _ _ _ _ _ _ _ _ _) uu Tryz.sizeOf48 rfl nb rfl ?_)))))))))
      refine yn (zt ?_); intro a w h
      refine retV h (results1 h rfl (.cell rfl mr Tryz.isAgg48 Tryz.sizeOf48 (rd_5_0_5 _ _ _ _ _))) ?_
      rw [Rat.add_def']

theorem C_QMul (x y : Rat) (ha : lenQ x ≤ 100000000000) (hb : lenQ y ≤ 100000000000) : CtrV Tryz.prog 12 [encQ x, encQ y] (encQ (x * y)) := by
  obtain ⟨ha1, ha2⟩ := lenQ_le ha
  obtain ⟨hb1, hb2⟩ := lenQ_le hb
  have hm1 := lenZ_mul x.num y.num
  have hdm := wds_len_mul x.den y.den
  have hpa := x.den_pos
  have hpb := y.den_pos
  refine fn_intro Tryz.func12 rfl Tryz.ntmps12 nb ?_
  intro S w0 a hS h
  refine gC h (zs (zr (zx rfl fun b2 => zx rfl fun b3 => zz Tryz.zeroValue48 fun b4 => zn (zs (zs (zr (zd rfl mr Tryz.isAgg48 Tryz.sizeOf48 (rd_5_0_5 _ _ _ _ _) ?_))))))); clear h; intro a w h
  refine gL h (zv [_] rfl Tryz.call38 (C_Whole x) (zm rfl ?_)); clear h; intro a w h
  refine by_bool h (fun hc7 h => ?_) (fun hc7 h => ?_)
  · skip
    have hwa : x.den = 1 := of_decide_eq_true hc7
    refine wpl_guard 7 h rfl rfl (op_load h rfl mr Tryz.isAgg48 Tryz.sizeOf48 (rd_5_0_5 _ _ _ _ _) (by decide) ?_); clear h; intro a h
    refine wpl_guard 7 h rfl rfl (op_callV h (vs := [_]) rfl Tryz.call38 (C_Whole y) (by decide) ?_); clear h; intro a w h
    refine by_bool h (fun hc9 h => ?_) (fun hc9 h => ?_)
    · skip
      have hwb : y.den = 1 := of_decide_eq_true hc9
      refine gL h (zp (.pickT rfl rfl) (zn ?_)); clear h; intro a w h
      change Code.wp _ _ _ _ _
      refine cond_true h rfl ?_
      refine gC h (zs (zr (zp (.fieldAddr rfl (fa_48_0 _ _)) (zd rfl mr Tryz.isAgg46 Tryz.sizeOf46 (rd_5_0_3 _ _ _ _ _) ?_)))); clear h; intro a w h
      refine gL h (zp (.fieldAddr rfl (fa_48_0 _ _)) (zd rfl mr Tryz.isAgg46 Tryz.sizeOf46 (rd_5_0_3 _ _ _ _ _) ?_)); clear h; intro a w h
      refine gL h (zv [_, _] rfl Tryz.call40 (C_ZMul _ _ (by omega) (by omega)) (zv [_] rfl Tryz.call39 (C_whole _) (zt' rfl rfl (st_5_0_5 _ _ _ _ _ _ _ _ _ _) uu Tryz.sizeOf48 rfl nb rfl ?_))); clear h; intro a w h
      refine wpList_nil (wp_ret ?_)
      refine retV h (results1 h rfl (.cell rfl mr Tryz.isAgg48 Tryz.sizeOf48 (rd_5_0_5 _ _ _ _ _))) ?_
      rw [show ((x.num * y.num : Int) : Rat) = x * y from mul_whole hwa hwb]
    · skip
      refine gL h (zp (.pickT rfl rfl) (zn ?_)); clear h; intro a w h
      change Code.wp _ _ _ _ _
      refine cond_false h rfl ?_
      refine gC h (zk (zs (yD mixed_YtmajjidkkpkhcaaGreat [0, 1, 2, 3, 5, 7, 4, 6, 8, 9, 10, 11] (floatsOK_none (by kernel_rfl)) (yp rfl (.fieldAddr rfl (fa_48_0 _ _)) (yd rfl rfl mr Tryz.isAgg46 Tryz.sizeOf46 (rd_5_0_3 _ _ _ _ _) ?_))))); clear h
      refine yp rfl (.fieldAddr rfl (fa_48_0 _ _)) (yd rfl rfl mr Tryz.isAgg46 Tryz.sizeOf46 (rd_5_0_3 _ _ _ _ _) ?_)
      refine yd rfl rfl mr Tryz.isAgg48 Tryz.sizeOf48 (rd_5_0_5 _ _ _ _ _) ?_
      refine yd rfl rfl mr Tryz.isAgg48 Tryz.sizeOf48 (rd_5_0_5 _ _ _ _ _) ?_
      refine yv [_, _] rfl rfl Tryz.call40 (C_ZMul _ _ (by omega) (by omega)) (yv [_] rfl rfl Tryz.call43 (C_den x (by omega)) (yv [_] rfl rfl Tryz.call43 (C_den y (by omega)) (yv [_, _] rfl rfl Tryz.call42 (C_Mul _ _ (by omega) (by omega)) (yv [_, _] rfl rfl Tryz.call41 (C_lowest _ _ (Nat.mul_ne_zero (by omega) (by omega)) (by omega) (by omega)) (yt rfl rfl rfl (st_5_0_5 _ _ _ _ _ _ _ _ _ _) uu Tryz.sizeOf48 rfl nb rfl ?_)))))
      refine yn (zt ?_); intro a w h
      refine retV h (results1 h rfl (.cell rfl mr Tryz.isAgg48 Tryz.sizeOf48 (rd_5_0_5 _ _ _ _ _))) ?_
      rw [Rat.mul_def']
  · skip
    refine gL h (zo 7 rfl rfl rfl (zo 7 rfl rfl rfl (zp (.pickF rfl rfl) (zn ?_)))); clear h; intro a w h
    change Code.wp _ _ _ _ _
    refine cond_false h rfl ?_
    refine gC h (zk (zs (yD mixed_YtmajjidkkpkhcaaGreat [0, 1, 2, 3, 5, 7, 4, 6, 8, 9, 10, 11] (floatsOK_none (by kernel_rfl)) (yp rfl (.fieldAddr rfl (fa_48_0 _ _)) (yd rfl rfl mr Tryz.isAgg46 Tryz.sizeOf46 (rd_5_0_3 _ _ _ _ _) ?_))))); clear h
    refine yp rfl (.fieldAddr rfl (fa_48_0 _ _)) (yd rfl rfl mr Tryz.isAgg46 Tryz.sizeOf46 (rd_5_0_3 _ _ _ _ _) ?_)
    refine yd rfl rfl mr Tryz.isAgg48 Tryz.sizeOf48 (rd_5_0_5 _ _ _ _ _) ?_
    refine yd rfl rfl mr Tryz.isAgg48 Tryz.sizeOf48 (rd_5_0_5 _ _ _ _ _) ?_
    refine yv [_, _] rfl rfl Tryz.call40 (C_ZMul _ _ (by omega) (by omega)) (yv [_] rfl rfl Tryz.call43 (C_den x (by omega)) (yv [_] rfl rfl Tryz.call43 (C_den y (by omega)) (yv [_, _] rfl rfl Tryz.call42 (C_Mul _ _ (by omega) (by omega)) (yv [_, _] rfl rfl Tryz.call41 (C_lowest _ _ (Nat.mul_ne_zero (by omega) (by omega)) (by omega) (by omega)) (yt rfl rfl rfl (st_5_0_5 _ _ _ _ _ _ _ _ _ _) uu Tryz.sizeOf48 rfl nb rfl ?_)))))
    refine yn (zt ?_); intro a w h
    refine retV h (results1 h rfl (.cell rfl mr Tryz.isAgg48 Tryz.sizeOf48 (rd_5_0_5 _ _ _ _ _))) ?_
    rw [Rat.mul_def']

theorem C_QSign (x : Rat) : CtrV Tryz.prog 22 [encQ x] (.int .i64 x.num.sign) := by
  refine fn_intro Tryz.func22 rfl Tryz.ntmps22 nb ?_
  intro S w0 a hS h
  refine gC h (zs (zr (zx rfl fun b1 => za rfl (zn (zs (zr (zp (.fieldAddr rfl (fa_48_0 _ _)) (zd rfl mr Tryz.isAgg46 Tryz.sizeOf46 (rd_5_0_3 _ _ _ _ _) ?_)))))))); clear h; intro a w h
  refine gL h (zv [_] rfl Tryz.call53 (C_ZSign x.num) (za rfl (zn (zt ?_)))); clear h; intro a w h
  refine retV h (results1 h rfl (.tmp rfl)) ?_
  rfl

theorem C_QInt (n : Int) (h0 : -9223372036854775808 ≤ n) (h1 : n ≤ 9223372036854775807) : CtrV Tryz.prog 17 [.int .i64 n] (encQ (n : Rat)) := by
  refine fn_intro Tryz.func17 rfl Tryz.ntmps17 nb ?_
  intro S w0 a hS h
  refine gC h (zs (zr (zz Tryz.zeroValue48 fun b2 => zn (zs (zr (zm rfl (zv [_] rfl Tryz.call50 (C_ZOf n h0 h1) (zv [_] rfl Tryz.call39 (C_whole n) (zt' rfl rfl (st_5_0_5 _ _ _ _ _ _ _ _ _ _) uu Tryz.sizeOf48 rfl nb rfl ?_))))))))); clear h; intro a w h
  refine wpList_nil (wp_ret ?_)
  refine retV h (results1 h rfl (.cell rfl mr Tryz.isAgg48 Tryz.sizeOf48 (rd_5_0_5 _ _ _ _ _))) ?_
  rfl

theorem C_inv (y : Rat) (hy : y ≠ 0) (h1 : lenZ (sgZ (decide (y.num.sign < 0)) y.den) ≤ 400000000000) (h2 : (wds y.num.natAbs).length ≤ 400000000000) :
    CtrV Tryz.prog 41 [encZ (sgZ (decide (y.num.sign < 0)) y.den), encN y.num.natAbs] (encQ y⁻¹) := by
  rw [← inv_mkRat y hy]
  exact C_lowest _ _ (fun h => hy (Rat.num_eq_zero.1 (Int.natAbs_eq_zero.1 h))) h1 h2

theorem C_QDiv (x y : Rat) (hy : y ≠ 0) (hx : lenQ x ≤ 100000000000) (hyl : lenQ y ≤ 100000000000) : CtrV Tryz.prog 51 [encQ x, encQ y] (.tuple #[encQ (x / y), .int .i64 0]) := by
  obtain ⟨hb1, hb2⟩ := lenQ_le hyl
  have h0 : y.num ≠ 0 := fun h => hy (Rat.num_eq_zero.1 h)
  have hs : lenZ (sgZ (decide (y.num.sign < 0)) y.den) = (wds y.den).length := by unfold lenZ; rw [sgZ_abs]
  have hz : (wds y.num.natAbs).length = lenZ y.num := rfl
  have hinv := lenQ_mkRat (sgZ (decide (y.num.sign < 0)) y.den) y.num.natAbs (by omega)
  rw [inv_mkRat y hy] at hinv
  refine fn_intro Tryz.func51 rfl Tryz.ntmps51 nb ?_
  intro S w0 a hS h
  refine gC h (zs (zr (zx rfl fun b2 => zx rfl fun b3 => zz Tryz.zeroValue48 fun b4 => za rfl (zn (zs (zs (zr (zd rfl mr Tryz.isAgg48 Tryz.sizeOf48 (rd_5_0_5 _ _ _ _ _) ?_)))))))); clear h; intro a w h
  refine gL h (zv [_] rfl Tryz.call22 (C_QSign y) (zp (.eql rfl rfl) (zn ?_))); clear h; intro a w h
  change Code.wp _ _ _ _ _
  refine cond_split h rfl (fun hc9 => (by exfalso; have := eq_of_beq hc9; exact h0 (Int.sign_eq_zero_iff_zero.1 this))) (fun hc9 => ?_)
  refine gC h (zk (zs (yD mixed_YtmajjidkkpkhcaaGreat [0, 3, 6, 7, 1, 2, 4, 5, 8, 9, 10, 11] (floatsOK_of ⟨.inl rfl, .inl rfl, .inl rfl, .inl rfl, .inl rfl, .inl rfl, .inl rfl, .inl rfl, .inl rfl, .inl rfl, .inr ⟨6, 48, _, _, _, rfl, rfl, by decide, _, Tryz.zeroValue48⟩, .inl rfl, trivial⟩) (yd rfl rfl mr Tryz.isAgg48 Tryz.sizeOf48 (rd_5_0_5 _ _ _ _ _) ?_)))); clear h
  refine yd rfl rfl mr Tryz.isAgg48 Tryz.sizeOf48 (rd_5_0_5 _ _ _ _ _) ?_
  refine yp rfl (.fieldAddr rfl (fa_48_0 _ _)) (yd rfl rfl mr Tryz.isAgg46 Tryz.sizeOf46 (rd_5_0_3 _ _ _ _ _) ?_)
  refine yv [_] rfl rfl Tryz.call22 (C_QSign y) (yp rfl (.lss rfl rfl) (yv [_] rfl rfl Tryz.call43 (C_den y (by omega)) (yv [_, _] rfl rfl Tryz.call75 (C_From _ _) (yv [_] rfl rfl Tryz.call71 (C_ZAbs y.num) (yv [_, _] rfl rfl Tryz.call41 (C_inv y hy (by omega) (by omega)) (yz rfl Tryz.zeroValue48 fun b6 => yt rfl rfl rfl (st_5_0_5 _ _ _ _ _ _ _ _ _ _) uu Tryz.sizeOf48 rfl nb rfl ?_))))))
  refine yn (zs (zr (zd rfl mr Tryz.isAgg48 Tryz.sizeOf48 (rd_5_0_5 _ _ _ _ _) ?_))); intro a w h
  refine gL h (zd rfl mr Tryz.isAgg48 Tryz.sizeOf48 (rd_5_0_5 _ _ _ _ _) ?_); clear h; intro a w h
  refine gL h (zv [_, _] rfl Tryz.call12 (C_QMul x y⁻¹ hx (by omega)) (zt' rfl rfl (st_5_0_5 _ _ _ _ _ _ _ _ _ _) uu Tryz.sizeOf48 rfl nb rfl ?_)); clear h; intro a w h
  refine gL h (za rfl (zn (zt ?_))); clear h; intro a w h
  refine retV h (results2 h rfl (.cell rfl mr Tryz.isAgg48 Tryz.sizeOf48 (rd_5_0_5 _ _ _ _ _)) (.tmp rfl)) ?_
  rw [Rat.div_def]
end Go.Proofs.YtmajjidkkpkhcaaGreat
