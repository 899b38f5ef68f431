/- Written by a program of ours (gen.py) out of short specifications. By an AI agent. -/
import Derived.Test.YtmajjidkkpkhcaaGreatFracs2
import Derived.Test.YtmajjidkkpkhcaaGreatFxZ
set_option linter.unusedVariables false
set_option linter.unusedSimpArgs false
set_option maxRecDepth 4000
namespace Go.Proofs.YtmajjidkkpkhcaaGreat
open Go Go.Proofs Go.Fx
attribute [local irreducible] Oper.wp Code.wp wpList Fx.Head wpOp

theorem lenZ_neg (x : Int) : lenZ (-x) = lenZ x := by unfold lenZ; rw [Int.natAbs_neg]
theorem sign_mkRat (n : Int) (d : Nat) (hd : d ≠ 0) : (mkRat n d).num.sign = n.sign := by
  cases h : mkRat n d with
  | mk' n' d' z c =>
    obtain ⟨m, hm, hn, _⟩ := Rat.mkRat_num_den hd h
    rw [hn, Int.sign_mul, show ((m : Nat) : Int).sign = 1 from Int.sign_eq_one_of_pos (by omega), Int.mul_one]
theorem sign_sub (x y : Rat) : (x - y).num.sign = (x.num * (y.den : Int) - y.num * (x.den : Int)).sign := by
  rw [Rat.sub_def', sign_mkRat _ _ (Nat.mul_ne_zero x.den_nz y.den_nz)]
theorem sign_same {x y : Rat} (h : x.den = y.den) : (x - y).num.sign = (x.num - y.num).sign := by
  rw [sign_sub, ← h, ← Int.sub_mul, Int.sign_mul, show ((x.den : Nat) : Int).sign = 1 from Int.sign_eq_one_of_pos (by have := x.den_pos; omega), Int.mul_one]
/-- The comparison of two whole numbers. -/
def cmpZ (i k : Int) : Int := if i < k then -1 else if i > k then 1 else 0
def validQ (t : Rat) : Bool := decide (t.num.sign ≥ 0) && decide ((t - ((1 : Int) : Rat)).num.sign ≤ 0)

theorem C_ZSub (x y : Int) (hx : lenZ x ≤ 400000000000) (hy : lenZ y ≤ 400000000000) : CtrV Tryz.prog 81 [encZ x, encZ y] (encZ (x - y)) := by
  refine fn_intro Tryz.func81 rfl Tryz.ntmps81 nb ?_
  intro S w0 a hS h
  refine gC h (zs (zr (zx rfl fun b2 => zx rfl fun b3 => zz zeroZ fun b4 => zn (zs (yD mixed_YtmajjidkkpkhcaaGreat [0, 1, 2, 3, 4] (floatsOK_none (by kernel_rfl)) (yd rfl rfl mr Tryz.isAgg46 Tryz.sizeOf46 (rd_3_0_3 _ _ _) ?_)))))); clear h
  refine yd rfl rfl mr Tryz.isAgg46 Tryz.sizeOf46 (rd_3_0_3 _ _ _) ?_
  refine yv [_] rfl rfl Tryz.call82 (C_ZNeg y) (yv [_, _, _] rfl rfl Tryz.call68 (C_told_plus x (-y) hx (by rw [lenZ_neg]; exact hy)) (yt rfl rfl rfl (st_3_0_3 _ _ _ _ _ _) uu Tryz.sizeOf46 rfl nb rfl ?_))
  refine yn (zt ?_); intro a w h
  refine retV h (results1 h rfl (.cell rfl mr Tryz.isAgg46 Tryz.sizeOf46 (rd_3_0_3 _ _ _))) ?_
  rw [Int.sub_eq_add_neg]

theorem C_ZCmp (x y : Int) (hx : lenZ x ≤ 400000000000) (hy : lenZ y ≤ 400000000000) : CtrV Tryz.prog 48 [encZ x, encZ y] (.int .i64 (x - y).sign) := by
  refine fn_intro Tryz.func48 rfl Tryz.ntmps48 nb ?_
  intro S w0 a hS h
  refine gC h (zs (zr (zx rfl fun b2 => zx rfl fun b3 => za rfl (zn (zs (zr (zd rfl mr Tryz.isAgg46 Tryz.sizeOf46 (rd_3_0_3 _ _ _) ?_))))))); clear h; intro a w h
  refine gL h (zd rfl mr Tryz.isAgg46 Tryz.sizeOf46 (rd_3_0_3 _ _ _) ?_); clear h; intro a w h
  refine gL h (zv [_, _] rfl Tryz.call81 (C_ZSub x y hx hy) (zv [_] rfl Tryz.call53 (C_ZSign _) (za rfl (zn (zt ?_))))); clear h; intro a w h
  refine retV h (results1 h rfl (.tmp rfl)) ?_
  rfl

theorem C_QCmp (x y : Rat) (ha : lenQ x ≤ 100000000000) (hb : lenQ y ≤ 100000000000) : CtrV Tryz.prog 15 [encQ x, encQ y] (.int .i64 (x - y).num.sign) := by
  obtain ⟨ha1, ha2⟩ := lenQ_le ha
  obtain ⟨hb1, hb2⟩ := lenQ_le hb
  have hm1 := lenZ_mul x.num (y.den : Int)
  have hm2 := lenZ_mul y.num (x.den : Int)
  have hda : lenZ (x.den : Int) = (wds x.den).length := rfl
  have hdb : lenZ (y.den : Int) = (wds y.den).length := rfl
  have hpa := x.den_pos
  have hpb := y.den_pos
  refine fn_intro Tryz.func15 rfl Tryz.ntmps15 nb ?_
  intro S w0 a hS h
  refine gC h (zs (zr (zx rfl fun b2 => zx rfl fun b3 => za rfl (zn (zs (zs (zr (zp (.fieldAddr rfl (fa_48_1 _ _)) (zd rfl mr Tryz.isAgg42 Tryz.sizeOf42 (rd_5_3_2 _ _ _ _ _) ?_))))))))); clear h; intro a w h
  refine gL h (zp (.fieldAddr rfl (fa_48_1 _ _)) (zd rfl mr Tryz.isAgg42 Tryz.sizeOf42 (rd_5_3_2 _ _ _ _ _) ?_)); clear h; intro a w h
  refine gL h (zp (.binOp rfl rfl (fun _ => run_eqN _ _ (x.den - 1) (y.den - 1) _)) ?_); clear h; intro a w h
  refine by_bool h (fun hc9 h => ?_) (fun hc9 h => ?_)
  · skip
    have hde : x.den = y.den := by have := of_decide_eq_true hc9; omega
    refine wpList_nil ?_
    change Code.wp _ _ _ _ _
    refine cond_true h rfl ?_
    refine gC h (zs (zr (zp (.fieldAddr rfl (fa_48_0 _ _)) (zd rfl mr Tryz.isAgg46 Tryz.sizeOf46 (rd_5_0_3 _ _ _ _ _) ?_)))); clear h; intro a w h
    refine gL h (zp (.fieldAddr rfl (fa_48_0 _ _)) (zd rfl mr Tryz.isAgg46 Tryz.sizeOf46 (rd_5_0_3 _ _ _ _ _) ?_)); clear h; intro a w h
    refine gL h (zv [_, _] rfl Tryz.call48 (C_ZCmp x.num y.num (by omega) (by omega)) (za rfl (zn (zt ?_)))); clear h; intro a w h
    refine retV h (results1 h rfl (.tmp rfl)) ?_
    rw [sign_same hde]
  · skip
    have hde : x.den ≠ y.den := by have := of_decide_eq_false hc9; omega
    refine wpList_nil ?_
    change Code.wp _ _ _ _ _
    refine cond_false h rfl ?_
    refine gC h (zk (zs (yD mixed_YtmajjidkkpkhcaaGreat [0, 1, 2, 5, 6, 7, 3, 4, 8, 9, 10, 11] (floatsOK_none (by kernel_rfl)) (yp rfl (.fieldAddr rfl (fa_48_0 _ _)) (yd rfl rfl mr Tryz.isAgg46 Tryz.sizeOf46 (rd_5_0_3 _ _ _ _ _) ?_))))); clear h
    refine yd rfl rfl mr Tryz.isAgg48 Tryz.sizeOf48 (rd_5_0_5 _ _ _ _ _) ?_
    refine yp rfl (.fieldAddr rfl (fa_48_0 _ _)) (yd rfl rfl mr Tryz.isAgg46 Tryz.sizeOf46 (rd_5_0_3 _ _ _ _ _) ?_)
    refine yd rfl rfl mr Tryz.isAgg48 Tryz.sizeOf48 (rd_5_0_5 _ _ _ _ _) ?_
    refine yv [_] rfl rfl Tryz.call47 (C_signed y (by omega)) (yv [_, _] rfl rfl Tryz.call40 (C_ZMul _ _ (by omega) (by omega)) (yv [_] rfl rfl Tryz.call47 (C_signed x (by omega)) (yv [_, _] rfl rfl Tryz.call40 (C_ZMul _ _ (by omega) (by omega)) (yv [_, _] rfl rfl Tryz.call48 (C_ZCmp _ _ (by omega) (by omega)) (yp rfl (.assign rfl) (yn (zt ?_))))))); intro a w h
    refine retV h (results1 h rfl (.tmp rfl)) ?_
    rw [sign_sub]

theorem C_isNaN (x : Int) : CtrV Tryz.prog 57 [.int .i64 x] (.bool false) := by
  refine fn_intro Tryz.func57 rfl Tryz.ntmps57 nb ?_
  intro S w0 a hS h
  refine gC h (zs (zr (za rfl (zn (zs (zr (zm rfl (zm rfl (zp (.neq rfl rfl) (za rfl (zn (zt ?_)))))))))))); clear h; intro a w h
  refine retV h (results1 h rfl (.tmp rfl)) ?_
  simp

theorem C_cmpZ (x y : Int) : CtrV Tryz.prog 28 [.int .i64 x, .int .i64 y] (.int .i64 (cmpZ x y)) := by
  refine fn_intro Tryz.func28 rfl Tryz.ntmps28 nb ?_
  intro S w0 a hS h
  refine gC h (zs (zr (za rfl (zn (zs (zr (zm rfl (zv [_] rfl Tryz.call57 (C_isNaN _) (za rfl (zn (zs (zr (zm rfl (zv [_] rfl Tryz.call57 (C_isNaN _) (za rfl (zn (zs (zs (zr (zm rfl ?_)))))))))))))))))))); clear h; intro a w h
  refine by_bool h (fun hc11 h => (by exfalso; cases hc11)) (fun hc11 h => ?_)
  refine wpList_nil ?_
  change Code.wp _ _ _ _ _
  refine cond_false h rfl ?_
  refine gC h (zk (zs (zs (zr (zm rfl ?_))))); clear h; intro a w h
  refine by_bool h (fun hc13 h => (by exfalso; cases hc13)) (fun hc13 h => ?_)
  refine wpList_nil ?_
  change Code.wp _ _ _ _ _
  refine cond_false h rfl ?_
  refine gC h (zk (zs (zs (zr (zm rfl (zm rfl (zp (.lss rfl rfl) (zn ?_)))))))); clear h; intro a w h
  change Code.wp _ _ _ _ _
  refine cond_split h rfl (fun hc16 => ?_) (fun hc16 => ?_)
  · skip
    refine gC h (zs (zr (za rfl (zn (zt ?_))))); clear h; intro a w h
    refine retV h (results1 h rfl (.tmp rfl)) ?_
    unfold cmpZ; have := of_decide_eq_true hc16; simp [this]
  · skip
    refine gC h (zk (zs (zs (zr (zm rfl (zm rfl (zp (.gtr rfl rfl) (zn ?_)))))))); clear h; intro a w h
    change Code.wp _ _ _ _ _
    refine cond_split h rfl (fun hc19 => ?_) (fun hc19 => ?_)
    · skip
      refine gC h (zs (zr (za rfl (zn (zt ?_))))); clear h; intro a w h
      refine retV h (results1 h rfl (.tmp rfl)) ?_
      unfold cmpZ; have h1 := of_decide_eq_false hc16; have h2 := of_decide_eq_true hc19; rw [if_neg h1, if_pos h2]
    · skip
      refine gC h (zk (zs (zr (za rfl (zn (zt ?_)))))); clear h; intro a w h
      refine retV h (results1 h rfl (.tmp rfl)) ?_
      unfold cmpZ; have h1 := of_decide_eq_false hc16; have h2 := of_decide_eq_false hc19; rw [if_neg h1, if_neg h2]

theorem C_valid (t : Rat) (ht : lenQ t ≤ 100000000) : CtrV Tryz.prog 23 [encQ t] (.bool (validQ t)) := by
  refine fn_intro Tryz.func23 rfl Tryz.ntmps23 nb ?_
  intro S w0 a hS h
  refine gC h (zs (zr (zx rfl fun b1 => za rfl (zn (zs (yD mixed_YtmajjidkkpkhcaaGreat [0, 1, 2, 3, 4, 5, 6, 7, 8, 9] (floatsOK_none (by kernel_rfl)) (yd rfl rfl mr Tryz.isAgg48 Tryz.sizeOf48 (rd_5_0_5 _ _ _ _ _) ?_))))))); clear h
  refine yv [_] rfl rfl Tryz.call22 (C_QSign _) (yp rfl (.geq rfl rfl) ?_)
  refine head_bool (fun hc5  => ?_) (fun hc5  => ?_)
  · skip
    refine yp rfl (.move rfl) (yg rfl rfl rfl rfl mr Tryz.isAgg48 Tryz.sizeOf48 (rd_5_0_5 _ _ _ _ _) ?_)
    refine head_callVG rfl rfl rfl (by kernel_rfl) (vs := [_]) rfl Tryz.call17 (C_QInt _ (by omega) (by omega)) (by decide) ?_
    have hl8 := lenQ_int (1) (by omega) (by omega)
    refine head_callVG rfl rfl rfl (by kernel_rfl) (vs := [_, _]) rfl Tryz.call15 (C_QCmp t (((1 : Int) : Rat)) (by omega) (by omega)) (by decide) ?_
    refine yq rfl rfl rfl (.leq rfl rfl) (yp rfl (.pickT rfl rfl) (yp rfl (.assign rfl) (yn (zt ?_)))); intro a w h
    refine retV h (results1 h rfl (.tmp rfl)) ?_
    unfold validQ; rw [hc5]; rfl
  · skip
    refine yp rfl (.move rfl) (yo 6 rfl rfl rfl rfl (yo 6 rfl rfl rfl rfl (yo 6 rfl rfl rfl rfl (yo 6 rfl rfl rfl rfl (yp rfl (.pickF rfl rfl) (yp rfl (.assign rfl) (yn (zt ?_)))))))); intro a w h
    refine retV h (results1 h rfl (.tmp rfl)) ?_
    unfold validQ; rw [hc5]; rfl

theorem C_negative (x : Rat) : CtrV Tryz.prog 21 [encQ x] (.bool (decide (x.num.sign < 0))) := by
  refine fn_intro Tryz.func21 rfl Tryz.ntmps21 nb ?_
  intro S w0 a hS h
  refine gC h (zs (zr (zx rfl fun b1 => za rfl (zn (zs (zr (zd rfl mr Tryz.isAgg48 Tryz.sizeOf48 (rd_5_0_5 _ _ _ _ _) ?_))))))); clear h; intro a w h
  refine gL h (zv [_] rfl Tryz.call22 (C_QSign _) (zp (.lss rfl rfl) (za rfl (zn (zt ?_))))); clear h; intro a w h
  refine retV h (results1 h rfl (.tmp rfl)) ?_
  rfl

theorem C_halfs (n : Int) (h0 : -9223372036854775808 ≤ n) (h1 : n ≤ 9223372036854775807) : CtrV Tryz.prog 19 [.int .i64 n] (encQ (((n : Int) : Rat) / ((2 : Int) : Rat))) := by
  refine fn_intro Tryz.func19 rfl Tryz.ntmps19 nb ?_
  intro S w0 a hS h
  refine gC h (zs (zr (zz zeroQ fun b2 => zn (zs (zr (zm rfl (zv [_, _] rfl Tryz.call18 (C_QOf _ _ (by omega) (by omega) (by omega) (by omega) (by omega)) ?_))))))); clear h; intro a w h
  have hl7 := lenQ_of (n) (2) (by omega) (by omega) (by omega) (by omega)
  refine gL h (zm rfl (zp (.extract rfl (fun _ => rfl)) (zp (.extract rfl (fun _ => rfl)) (zz zeroQ fun b3 => zt' rfl rfl (st_5_0_5 _ _ _ _ _ _ _ _ _ _) uu Tryz.sizeOf48 rfl nb rfl ?_)))); clear h; intro a w h
  refine gL h (za rfl (zn (zs (zr (zd rfl mr Tryz.isAgg48 Tryz.sizeOf48 (rd_5_0_5 _ _ _ _ _) ?_))))); clear h; intro a w h
  refine gL h (zt' rfl rfl (st_5_0_5 _ _ _ _ _ _ _ _ _ _) uu Tryz.sizeOf48 rfl nb rfl ?_); clear h; intro a w h
  refine wpList_nil (wp_ret ?_)
  refine retV h (results1 h rfl (.cell rfl mr Tryz.isAgg48 Tryz.sizeOf48 (rd_5_0_5 _ _ _ _ _))) ?_
  rfl
end Go.Proofs.YtmajjidkkpkhcaaGreat
