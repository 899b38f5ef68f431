/- Written by a program of ours (gen.py) out of short specifications. By an AI agent. -/
import Derived.Test.YtmajjidkkpkhcaaGreatNats9
import Derived.Test.YtmajjidkkpkhcaaGreatFxZ
set_option linter.unusedVariables false
set_option linter.unusedSimpArgs false
set_option maxRecDepth 4000
namespace Go.Proofs.YtmajjidkkpkhcaaGreat
open Go Go.Proofs Go.Fx
attribute [local irreducible] Oper.wp Code.wp wpList Fx.Head wpOp
theorem bd_44_z (w : World) : (Instr.build 44 [].toArray).run Tryz.prog w = .ok (.agg #[.int .u64 0, .string ⟨#[]⟩]) w := by simp [go_sem]
theorem bd_44_0 (x0_0 : Value) (x0_1 : Value) (w : World) : (Instr.build 44 [(0, .agg #[x0_0, x0_1])].toArray).run Tryz.prog w = .ok (.agg #[x0_0, x0_1]) w := by simp [go_sem]
theorem bd_46_0_1 (x0_0 : Value) (x0_1 : Value) (x1 : Bool) (w : World) : (Instr.build 46 [(0, .agg #[x0_0, x0_1]), (1, .bool x1)].toArray).run Tryz.prog w = .ok (.agg #[x0_0, x0_1, .bool x1]) w := by simp [go_sem]
theorem st_3_0_3 (c0 c1 c2 v0 v1 v2 : Value) : setFrom #[c0, c1, c2] 0 [v0, v1, v2] = #[v0, v1, v2] := rfl
theorem rd_3_0_3 (c0 c1 c2 : Value) : readAt true 3 #[c0, c1, c2] 0 = some (.agg #[c0, c1, c2]) := rfl
theorem fa_46_1 (b off : Nat) (w : World) : (Instr.fieldAt 46 (.pointer (some ⟨b, off, none⟩)) 1).run Tryz.prog w = .ok (.pointer (some ⟨b, off + 2, none⟩)) w := by
  simp [go_sem]
theorem rs_3_2 (c0 c1 c2 : Value) : readAt false 1 #[c0, c1, c2] 2 = some c2 := rfl
theorem fa_46_0 (b off : Nat) (w : World) : (Instr.fieldAt 46 (.pointer (some ⟨b, off, none⟩)) 0).run Tryz.prog w = .ok (.pointer (some ⟨b, off + 0, none⟩)) w := by
  simp [go_sem]
theorem fa_44_0 (b off : Nat) (w : World) : (Instr.fieldAt 44 (.pointer (some ⟨b, off, none⟩)) 0).run Tryz.prog w = .ok (.pointer (some ⟨b, off + 0, none⟩)) w := by
  simp [go_sem]
theorem rd_3_0_2 (c0 c1 c2 : Value) : readAt true 2 #[c0, c1, c2] 0 = some (.agg #[c0, c1]) := rfl
/-- The size of a whole number. -/
def lenZ (z : Int) : Nat := (wds z.natAbs).length
def sgZ (neg : Bool) (n : Nat) : Int := if neg then -(n : Int) else (n : Int)
theorem sgZ_abs (neg : Bool) (n : Nat) : (sgZ neg n).natAbs = n := by unfold sgZ; split <;> omega
theorem sgZ_self (z : Int) : sgZ (decide (z < 0)) z.natAbs = z := by unfold sgZ; split <;> simp_all <;> omega
theorem sgZ_neg (neg : Bool) (n : Nat) : decide (sgZ neg n < 0) = (neg && !decide (n = 0)) := by
  unfold sgZ; cases neg <;> by_cases h : n = 0 <;> simp [h] <;> omega
theorem encS_eq (X Y : Operand) (n m : Nat) (w : World) : (do eqGuard .eql 44 X Y (encN n) (encN m); Go.binOp .eql 44 (encN n) (encN m) : Sem Value).run Tryz.prog w = .ok (.bool (decide (n = m))) w := by
  simp [go_sem]
  have hb : ((bigN n).toList = (bigN m).toList) ↔ bigN n = bigN m := by have := toList_beq (bigN n) (bigN m); rw [Bool.eq_iff_iff] at this; simpa using this
  by_cases h : n = m
  · subst h; simp
  · have hne := fun h1 h2 => h (enc_inj h1 h2)
    by_cases h1 : lowN n = lowN m
    · simp only [h, h1, hb, if_true, decide_false]; exact if_neg (hne h1)
    · simp [h, h1]

theorem C_szero (n : Nat) : CtrV Tryz.prog 84 [encN n] (.bool (decide (n = 0))) := by
  refine fn_intro Tryz.func84 rfl Tryz.ntmps84 nb ?_
  intro S w0 a hS h
  refine gC h (zs (zr (zx rfl fun b1 => za rfl (zn (zs (zr (zd rfl mr Tryz.isAgg44 Tryz.sizeOf44 (rd_2_0_2 _ _) ?_))))))); clear h; intro a w h
  refine gL h (zp (Pure1.cast (v' := encN 0) (.build [] rfl (bd_44_z)) (by rfl)) (zp (.binOp rfl rfl (fun _ => encS_eq _ _ n 0 _)) (za rfl (zn (zt ?_))))); clear h; intro a w h
  refine retV h (results1 h rfl (.tmp rfl)) ?_
  rfl

theorem C_From (neg : Bool) (n : Nat) : CtrV Tryz.prog 75 [.bool neg, encN n] (encZ (sgZ neg n)) := by
  refine fn_intro Tryz.func75 rfl Tryz.ntmps75 nb ?_
  intro S w0 a hS h
  refine gC h (zs (zr (zx rfl fun b3 => zz Tryz.zeroValue46 fun b4 => zn (zs (zr (zd rfl mr Tryz.isAgg42 Tryz.sizeOf42 (rd_2_0_2 _ _) ?_)))))); clear h; intro a w h
  refine gL h (zp (.build [(_, _)] rfl (bd_44_0 _ _)) (zz Tryz.zeroValue44 fun b5 => zt' rfl rfl (st_2_0_2 _ _ _ _) uu Tryz.sizeOf44 rfl nb rfl ?_)); clear h; intro a w h
  refine gL h (zn (zs (yD mixed_YtmajjidkkpkhcaaGreat [0, 1, 2, 3, 4, 5, 6, 7, 8] (floatsOK_none (by kernel_rfl)) (yd rfl rfl mr Tryz.isAgg44 Tryz.sizeOf44 (rd_2_0_2 _ _) ?_)))); clear h
  refine yp rfl (.move rfl) (yp rfl (.move rfl) ?_)
  refine head_bool (fun hc10  => ?_) (fun hc10  => ?_)
  · skip
    refine yg rfl rfl rfl rfl mr Tryz.isAgg44 Tryz.sizeOf44 (rd_2_0_2 _ _) ?_
    refine head_callVG rfl rfl rfl (by kernel_rfl) (vs := [_]) rfl Tryz.call84 (C_szero n) (by decide) ?_
    refine yq rfl rfl rfl (.unOp rfl (un_not _)) (yp rfl (.pickT rfl rfl) (yp rfl (.build [(_, _), (_, _)] rfl (bd_46_0_1 _ _ _)) (yt rfl rfl rfl (st_3_0_3 _ _ _ _ _ _) uu Tryz.sizeOf46 rfl nb rfl ?_)))
    refine yn (zt ?_); intro a w h
    refine retV h (results1 h rfl (.cell rfl mr Tryz.isAgg46 Tryz.sizeOf46 (rd_3_0_3 _ _ _))) ?_
    subst hc10; rw [encZ, sgZ_abs, sgZ_neg]; rfl
  · skip
    refine yo 10 rfl rfl rfl rfl (yo 10 rfl rfl rfl rfl (yo 10 rfl rfl rfl rfl (yp rfl (.pickF rfl rfl) (yp rfl (.build [(_, _), (_, _)] rfl (bd_46_0_1 _ _ _)) (yt rfl rfl rfl (st_3_0_3 _ _ _ _ _ _) uu Tryz.sizeOf46 rfl nb rfl ?_)))))
    refine yn (zt ?_); intro a w h
    refine retV h (results1 h rfl (.cell rfl mr Tryz.isAgg46 Tryz.sizeOf46 (rd_3_0_3 _ _ _))) ?_
    subst hc10; rw [encZ, sgZ_abs, sgZ_neg]; rfl

theorem C_plus (x y : Int) (hx : lenZ x ≤ 400000000000) (hy : lenZ y ≤ 400000000000) : CtrV Tryz.prog 80 [encZ x, encZ y] (encZ (x + y)) := by
  unfold lenZ at hx hy
  refine fn_intro Tryz.func80 rfl Tryz.ntmps80 nb ?_
  intro S w0 a hS h
  refine gC h (zs (zr (zx rfl fun b2 => zx rfl fun b3 => zz Tryz.zeroValue46 fun b4 => zn (zs (zs (zr (zp (.fieldAddr rfl (fa_46_1 _ _)) (zd rfl mr Tryz.isAgg4 Tryz.sizeOf4 (rs_3_2 _ _ _) ?_)))))))); clear h; intro a w h
  refine gL h (zp (.fieldAddr rfl (fa_46_1 _ _)) (zd rfl mr Tryz.isAgg4 Tryz.sizeOf4 (rs_3_2 _ _ _) ?_)); clear h; intro a w h
  refine gL h (zp (.binOp rfl rfl (fun _ => run_beql _ Tryz.underlying4 _ _ _ _)) (zn ?_)); clear h; intro a w h
  change Code.wp _ _ _ _ _
  refine cond_split h rfl (fun hc13 => ?_) (fun hc13 => ?_)
  · skip
    refine gC h (zs (yD mixed_YtmajjidkkpkhcaaGreat [0, 1, 2, 3, 4, 5, 6, 7, 8, 9, 10] (floatsOK_none (by kernel_rfl)) (yp rfl (.fieldAddr rfl (fa_46_1 _ _)) (yd rfl rfl mr Tryz.isAgg4 Tryz.sizeOf4 (rs_3_2 _ _ _) ?_)))); clear h
    refine yp rfl (.fieldAddr rfl (fa_46_0 _ _)) (yp rfl (.fieldAddr rfl (fa_44_0 _ _)) (yd rfl rfl mr Tryz.isAgg42 Tryz.sizeOf42 (rd_3_0_2 _ _ _) ?_))
    refine yp rfl (.fieldAddr rfl (fa_46_0 _ _)) (yp rfl (.fieldAddr rfl (fa_44_0 _ _)) (yd rfl rfl mr Tryz.isAgg42 Tryz.sizeOf42 (rd_3_0_2 _ _ _) ?_))
    refine yv [_, _] rfl rfl Tryz.call79 (C_Add _ _ (by omega) (by omega)) (yv [_, _] rfl rfl Tryz.call75 (C_From _ _) (yt rfl rfl rfl (st_3_0_3 _ _ _ _ _ _) uu Tryz.sizeOf46 rfl nb rfl ?_))
    refine yn (zt ?_); intro a w h
    refine retV h (results1 h rfl (.cell rfl mr Tryz.isAgg46 Tryz.sizeOf46 (rd_3_0_3 _ _ _))) ?_
    rw [show sgZ (decide (x < 0)) (x.natAbs + y.natAbs) = x + y from by unfold sgZ; by_cases h1 : x < 0 <;> by_cases h2 : y < 0 <;> simp [h1, h2] at hc13 ⊢ <;> omega]
  · skip
    refine gC h (zk (zs (zs (zr (zp (.fieldAddr rfl (fa_46_0 _ _)) (zp (.fieldAddr rfl (fa_44_0 _ _)) (zd rfl mr Tryz.isAgg42 Tryz.sizeOf42 (rd_3_0_2 _ _ _) ?_))))))); clear h; intro a w h
    refine gL h (zp (.fieldAddr rfl (fa_46_0 _ _)) (zp (.fieldAddr rfl (fa_44_0 _ _)) (zd rfl mr Tryz.isAgg42 Tryz.sizeOf42 (rd_3_0_2 _ _ _) ?_))); clear h; intro a w h
    refine gL h (zv [_, _] rfl Tryz.call73 (C_Sub x.natAbs y.natAbs (by omega) (by omega)) (zm rfl (zp (.extract rfl (fun _ => rfl)) (zp (.extract rfl (fun _ => rfl)) (zz Tryz.zeroValue42 fun b5 => zt' rfl rfl (st_2_0_2 _ _ _ _) uu Tryz.sizeOf42 rfl nb rfl ?_))))); clear h; intro a w h
    refine gL h (za rfl (zn (zs (zr (zm rfl (zn ?_)))))); clear h; intro a w h
    change Code.wp _ _ _ _ _
    refine cond_split h rfl (fun hc34 => ?_) (fun hc34 => ?_)
    · skip
      refine gC h (zs (zr (zp (.fieldAddr rfl (fa_46_1 _ _)) (zd rfl mr Tryz.isAgg4 Tryz.sizeOf4 (rs_3_2 _ _ _) ?_)))); clear h; intro a w h
      refine gL h (zd rfl mr Tryz.isAgg42 Tryz.sizeOf42 (rd_2_0_2 _ _) ?_); clear h; intro a w h
      refine gL h (zv [_, _] rfl Tryz.call75 (C_From _ _) (zt' rfl rfl (st_3_0_3 _ _ _ _ _ _) uu Tryz.sizeOf46 rfl nb rfl ?_)); clear h; intro a w h
      refine wpList_nil (wp_ret ?_)
      refine retV h (results1 h rfl (.cell rfl mr Tryz.isAgg46 Tryz.sizeOf46 (rd_3_0_3 _ _ _))) ?_
      have hle : y.natAbs ≤ x.natAbs := of_decide_eq_true hc34
      rw [show sgZ (decide (x < 0)) (x.natAbs - y.natAbs) = x + y from by unfold sgZ; by_cases h1 : x < 0 <;> by_cases h2 : y < 0 <;> simp [h1, h2] at hc13 ⊢ <;> omega]
    · skip
      refine gC h (zk (zs (zr (zp (.fieldAddr rfl (fa_46_0 _ _)) (zp (.fieldAddr rfl (fa_44_0 _ _)) (zd rfl mr Tryz.isAgg42 Tryz.sizeOf42 (rd_3_0_2 _ _ _) ?_)))))); clear h; intro a w h
      refine gL h (zp (.fieldAddr rfl (fa_46_0 _ _)) (zp (.fieldAddr rfl (fa_44_0 _ _)) (zd rfl mr Tryz.isAgg42 Tryz.sizeOf42 (rd_3_0_2 _ _ _) ?_))); clear h; intro a w h
      refine gL h (zv [_, _] rfl Tryz.call73 (C_Sub y.natAbs x.natAbs (by omega) (by omega)) (zm rfl (zp (.extract rfl (fun _ => rfl)) (zp (.extract rfl (fun _ => rfl)) (zz Tryz.zeroValue42 fun b7 => zt' rfl rfl (st_2_0_2 _ _ _ _) uu Tryz.sizeOf42 rfl nb rfl ?_))))); clear h; intro a w h
      refine gL h (za rfl (zn (zs (zr (zp (.fieldAddr rfl (fa_46_1 _ _)) (zd rfl mr Tryz.isAgg4 Tryz.sizeOf4 (rs_3_2 _ _ _) ?_)))))); clear h; intro a w h
      refine gL h (zd rfl mr Tryz.isAgg42 Tryz.sizeOf42 (rd_2_0_2 _ _) ?_); clear h; intro a w h
      refine gL h (zv [_, _] rfl Tryz.call75 (C_From _ _) (zt' rfl rfl (st_3_0_3 _ _ _ _ _ _) uu Tryz.sizeOf46 rfl nb rfl ?_)); clear h; intro a w h
      refine wpList_nil (wp_ret ?_)
      refine retV h (results1 h rfl (.cell rfl mr Tryz.isAgg46 Tryz.sizeOf46 (rd_3_0_3 _ _ _))) ?_
      have hle : ¬ y.natAbs ≤ x.natAbs := of_decide_eq_false hc34
      rw [show sgZ (decide (y < 0)) (y.natAbs - x.natAbs) = x + y from by unfold sgZ; by_cases h1 : x < 0 <;> by_cases h2 : y < 0 <;> simp [h1, h2] at hc13 ⊢ <;> omega]

theorem C_times (x y : Int) (hx : lenZ x ≤ 400000000000) (hy : lenZ y ≤ 400000000000) : CtrV Tryz.prog 69 [encZ x, encZ y] (encZ (x * y)) := by
  unfold lenZ at hx hy
  refine fn_intro Tryz.func69 rfl Tryz.ntmps69 nb ?_
  intro S w0 a hS h
  refine gC h (zs (zr (zx rfl fun b2 => zx rfl fun b3 => zz Tryz.zeroValue46 fun b4 => zn (zs (yD mixed_YtmajjidkkpkhcaaGreat [0, 1, 2, 3, 4, 5, 6, 7, 8, 9, 10, 11, 12, 13] (floatsOK_none (by kernel_rfl)) (yp rfl (.fieldAddr rfl (fa_46_1 _ _)) (yd rfl rfl mr Tryz.isAgg4 Tryz.sizeOf4 (rs_3_2 _ _ _) ?_))))))); clear h
  refine yp rfl (.fieldAddr rfl (fa_46_1 _ _)) (yd rfl rfl mr Tryz.isAgg4 Tryz.sizeOf4 (rs_3_2 _ _ _) ?_)
  refine yp rfl (.binOp rfl rfl (fun _ => run_bneq _ Tryz.underlying4 _ _ _ _)) (yp rfl (.fieldAddr rfl (fa_46_0 _ _)) (yp rfl (.fieldAddr rfl (fa_44_0 _ _)) (yd rfl rfl mr Tryz.isAgg42 Tryz.sizeOf42 (rd_3_0_2 _ _ _) ?_)))
  refine yp rfl (.fieldAddr rfl (fa_46_0 _ _)) (yp rfl (.fieldAddr rfl (fa_44_0 _ _)) (yd rfl rfl mr Tryz.isAgg42 Tryz.sizeOf42 (rd_3_0_2 _ _ _) ?_))
  refine yv [_, _] rfl rfl Tryz.call42 (C_Mul _ _ (by omega) (by omega)) (yv [_, _] rfl rfl Tryz.call75 (C_From _ _) (yt rfl rfl rfl (st_3_0_3 _ _ _ _ _ _) uu Tryz.sizeOf46 rfl nb rfl ?_))
  refine yn (zt ?_); intro a w h
  refine retV h (results1 h rfl (.cell rfl mr Tryz.isAgg46 Tryz.sizeOf46 (rd_3_0_3 _ _ _))) ?_
  rw [show sgZ (decide (x < 0) != decide (y < 0)) (x.natAbs * y.natAbs) = x * y from by
    conv => rhs; rw [← sgZ_self x, ← sgZ_self y]
    unfold sgZ
    by_cases h1 : x < 0 <;> by_cases h2 : y < 0 <;> simp only [h1, h2, decide_true, decide_false, bne_self_eq_false, Bool.true_bne, Bool.false_bne, Bool.not_true, Bool.not_false, if_true, Bool.false_eq_true, if_false, Int.natCast_mul, Int.neg_mul, Int.mul_neg, Int.neg_neg]]

theorem C_told_plus (x y : Int) (hx : lenZ x ≤ 400000000000) (hy : lenZ y ≤ 400000000000) : CtrV Tryz.prog 68 [.func (.func 80) #[] #[], encZ x, encZ y] (encZ (x + y)) := by
  refine fn_intro Tryz.func68 rfl Tryz.ntmps68 nb ?_
  intro S w0 a hS h
  refine gC h (zs (zr (zx rfl fun b4 => zx rfl fun b5 => zz Tryz.zeroValue46 fun b6 => zn (zs (zr (zm rfl (zd rfl mr Tryz.isAgg46 Tryz.sizeOf46 (rd_3_0_3 _ _ _) ?_))))))); clear h; intro a w h
  refine gL h (zd rfl mr Tryz.isAgg46 Tryz.sizeOf46 (rd_3_0_3 _ _ _) ?_); clear h; intro a w h
  refine wpl_plain (op_callVx h (fs := []) (cs := []) rfl (vs := [_, _]) rfl Tryz.call80 (C_plus x y hx hy) (by decide) ?_); clear h; intro a w h
  refine gL h (zt' rfl rfl (st_3_0_3 _ _ _ _ _ _) uu Tryz.sizeOf46 rfl nb rfl ?_); clear h; intro a w h
  refine wpList_nil (wp_ret ?_)
  refine retV h (results1 h rfl (.cell rfl mr Tryz.isAgg46 Tryz.sizeOf46 (rd_3_0_3 _ _ _))) ?_
  rfl

theorem C_ZAdd (x y : Int) (hx : lenZ x ≤ 400000000000) (hy : lenZ y ≤ 400000000000) : CtrV Tryz.prog 46 [encZ x, encZ y] (encZ (x + y)) := by
  refine fn_intro Tryz.func46 rfl Tryz.ntmps46 nb ?_
  intro S w0 a hS h
  refine gC h (zs (zr (zx rfl fun b2 => zx rfl fun b3 => zz Tryz.zeroValue46 fun b4 => zn (zs (zr (zd rfl mr Tryz.isAgg46 Tryz.sizeOf46 (rd_3_0_3 _ _ _) ?_)))))); clear h; intro a w h
  refine gL h (zd rfl mr Tryz.isAgg46 Tryz.sizeOf46 (rd_3_0_3 _ _ _) ?_); clear h; intro a w h
  refine gL h (zv [_, _, _] rfl Tryz.call68 (C_told_plus x y hx hy) (zt' rfl rfl (st_3_0_3 _ _ _ _ _ _) uu Tryz.sizeOf46 rfl nb rfl ?_)); clear h; intro a w h
  refine wpList_nil (wp_ret ?_)
  refine retV h (results1 h rfl (.cell rfl mr Tryz.isAgg46 Tryz.sizeOf46 (rd_3_0_3 _ _ _))) ?_
  rfl

theorem C_told_times (x y : Int) (hx : lenZ x ≤ 400000000000) (hy : lenZ y ≤ 400000000000) : CtrV Tryz.prog 68 [.func (.func 69) #[] #[], encZ x, encZ y] (encZ (x * y)) := by
  refine fn_intro Tryz.func68 rfl Tryz.ntmps68 nb ?_
  intro S w0 a hS h
  refine gC h (zs (zr (zx rfl fun b4 => zx rfl fun b5 => zz Tryz.zeroValue46 fun b6 => zn (zs (zr (zm rfl (zd rfl mr Tryz.isAgg46 Tryz.sizeOf46 (rd_3_0_3 _ _ _) ?_))))))); clear h; intro a w h
  refine gL h (zd rfl mr Tryz.isAgg46 Tryz.sizeOf46 (rd_3_0_3 _ _ _) ?_); clear h; intro a w h
  refine wpl_plain (op_callVx h (fs := []) (cs := []) rfl (vs := [_, _]) rfl Tryz.call69 (C_times x y hx hy) (by decide) ?_); clear h; intro a w h
  refine gL h (zt' rfl rfl (st_3_0_3 _ _ _ _ _ _) uu Tryz.sizeOf46 rfl nb rfl ?_); clear h; intro a w h
  refine wpList_nil (wp_ret ?_)
  refine retV h (results1 h rfl (.cell rfl mr Tryz.isAgg46 Tryz.sizeOf46 (rd_3_0_3 _ _ _))) ?_
  rfl

theorem C_ZMul (x y : Int) (hx : lenZ x ≤ 400000000000) (hy : lenZ y ≤ 400000000000) : CtrV Tryz.prog 40 [encZ x, encZ y] (encZ (x * y)) := by
  refine fn_intro Tryz.func40 rfl Tryz.ntmps40 nb ?_
  intro S w0 a hS h
  refine gC h (zs (zr (zx rfl fun b2 => zx rfl fun b3 => zz Tryz.zeroValue46 fun b4 => zn (zs (zr (zd rfl mr Tryz.isAgg46 Tryz.sizeOf46 (rd_3_0_3 _ _ _) ?_)))))); clear h; intro a w h
  refine gL h (zd rfl mr Tryz.isAgg46 Tryz.sizeOf46 (rd_3_0_3 _ _ _) ?_); clear h; intro a w h
  refine gL h (zv [_, _, _] rfl Tryz.call68 (C_told_times x y hx hy) (zt' rfl rfl (st_3_0_3 _ _ _ _ _ _) uu Tryz.sizeOf46 rfl nb rfl ?_)); clear h; intro a w h
  refine wpList_nil (wp_ret ?_)
  refine retV h (results1 h rfl (.cell rfl mr Tryz.isAgg46 Tryz.sizeOf46 (rd_3_0_3 _ _ _))) ?_
  rfl

theorem C_ZNeg (x : Int) : CtrV Tryz.prog 82 [encZ x] (encZ (-x)) := by
  refine fn_intro Tryz.func82 rfl Tryz.ntmps82 nb ?_
  intro S w0 a hS h
  refine gC h (zs (zr (zx rfl fun b1 => zz Tryz.zeroValue46 fun b2 => zn (zs (zr (zp (.fieldAddr rfl (fa_46_1 _ _)) (zd rfl mr Tryz.isAgg4 Tryz.sizeOf4 (rs_3_2 _ _ _) ?_))))))); clear h; intro a w h
  refine gL h (zp (.unOp rfl (un_not _)) (zp (.fieldAddr rfl (fa_46_0 _ _)) (zp (.fieldAddr rfl (fa_44_0 _ _)) (zd rfl mr Tryz.isAgg42 Tryz.sizeOf42 (rd_3_0_2 _ _ _) ?_)))); clear h; intro a w h
  refine gL h (zv [_, _] rfl Tryz.call75 (C_From _ _) (zt' rfl rfl (st_3_0_3 _ _ _ _ _ _) uu Tryz.sizeOf46 rfl nb rfl ?_)); clear h; intro a w h
  refine wpList_nil (wp_ret ?_)
  refine retV h (results1 h rfl (.cell rfl mr Tryz.isAgg46 Tryz.sizeOf46 (rd_3_0_3 _ _ _))) ?_
  rw [show sgZ (!decide (x < 0)) x.natAbs = -x from by unfold sgZ; by_cases h1 : x < 0 <;> simp [h1] <;> omega]

theorem C_ZAbs (x : Int) : CtrV Tryz.prog 71 [encZ x] (encN x.natAbs) := by
  refine fn_intro Tryz.func71 rfl Tryz.ntmps71 nb ?_
  intro S w0 a hS h
  refine gC h (zs (zr (zx rfl fun b1 => zz Tryz.zeroValue42 fun b2 => zn (zs (zr (zp (.fieldAddr rfl (fa_46_0 _ _)) (zp (.fieldAddr rfl (fa_44_0 _ _)) (zd rfl mr Tryz.isAgg42 Tryz.sizeOf42 (rd_3_0_2 _ _ _) ?_)))))))); clear h; intro a w h
  refine gL h (zt' rfl rfl (st_2_0_2 _ _ _ _) uu Tryz.sizeOf42 rfl nb rfl ?_); clear h; intro a w h
  refine wpList_nil (wp_ret ?_)
  refine retV h (results1 h rfl (.cell rfl mr Tryz.isAgg42 Tryz.sizeOf42 (rd_2_0_2 _ _))) ?_
  rfl

theorem C_ZSign (x : Int) : CtrV Tryz.prog 53 [encZ x] (.int .i64 x.sign) := by
  refine fn_intro Tryz.func53 rfl Tryz.ntmps53 nb ?_
  intro S w0 a hS h
  refine gC h (zs (zr (zx rfl fun b1 => za rfl (zn (zs (zb (zs (zr (zp (.fieldAddr rfl (fa_46_0 _ _)) (zd rfl mr Tryz.isAgg44 Tryz.sizeOf44 (rd_3_0_2 _ _ _) ?_)))))))))); clear h; intro a w h
  refine gL h (zv [_] rfl Tryz.call84 (C_szero x.natAbs) (za rfl (zn ?_))); clear h; intro a w h
  change Code.wp _ _ _ _ _
  refine cond_split h rfl (fun hc3 => ?_) (fun hc3 => ?_)
  · skip
    refine gC h (zs (zr (za rfl (zn (zt ?_))))); clear h; intro a w h
    refine retV h (results1 h rfl (.tmp rfl)) ?_
    rw [show x = 0 by have := of_decide_eq_true hc3; omega]; rfl
  · skip
    refine gC h (zs (zr (zp (.fieldAddr rfl (fa_46_1 _ _)) (zd rfl mr Tryz.isAgg4 Tryz.sizeOf4 (rs_3_2 _ _ _) ?_)))); clear h; intro a w h
    refine gL h (za rfl (zn ?_)); clear h; intro a w h
    change Code.wp _ _ _ _ _
    refine cond_split h rfl (fun hc7 => ?_) (fun hc7 => ?_)
    · skip
      refine gC h (zs (zr (za rfl (zn (zt ?_))))); clear h; intro a w h
      refine retV h (results1 h rfl (.tmp rfl)) ?_
      rw [Int.sign_eq_neg_one_of_neg (of_decide_eq_true hc7)]
    · skip
      refine gC h (zk (zs (zr (za rfl (zn (zt ?_)))))); clear h; intro a w h
      refine retV h (results1 h rfl (.tmp rfl)) ?_
      have h1 := of_decide_eq_false hc3; have h2 := of_decide_eq_false hc7; rw [Int.sign_eq_one_of_pos (by omega)]
end Go.Proofs.YtmajjidkkpkhcaaGreat
