/- Written by a program of ours (gen.py) out of short specifications. By an AI agent. -/
import Derived.Test.YtealgpgmbflilaaGreatDoorRef2
set_option linter.unusedVariables false
set_option linter.unusedSimpArgs false
set_option maxRecDepth 4000
namespace Go.Proofs.YtealgpgmbflilaaGreatDoor
open Go Go.Proofs Go.Fx
attribute [local irreducible] Oper.wp Code.wp wpList Fx.Head wpOp
theorem fa_56_1 (b off : Nat) (w : World) : (Instr.fieldAt 56 (.pointer (some ⟨b, off, none⟩)) 1).run Tryz.prog w = .ok (.pointer (some ⟨b, off + 2, none⟩)) w := by
  simp [go_sem]
theorem bd_56_0_1 (x0_0 : Value) (x0_1 : Value) (x1 : Option Addr) (x1n : Nat) (x1c : Nat) (w : World) : (Instr.build 56 [(0, .agg #[x0_0, x0_1]), (1, .slice x1 x1n x1c)].toArray).run Tryz.prog w = .ok (.agg #[x0_0, x0_1, .slice x1 x1n x1c]) w := by simp [go_sem]
theorem bd_56_0 (x0_0 : Value) (x0_1 : Value) (w : World) : (Instr.build 56 [(0, .agg #[x0_0, x0_1])].toArray).run Tryz.prog w = .ok (.agg #[x0_0, x0_1, .slice none 0 0]) w := by simp [go_sem]
theorem fa_56_0 (b off : Nat) (w : World) : (Instr.fieldAt 56 (.pointer (some ⟨b, off, none⟩)) 0).run Tryz.prog w = .ok (.pointer (some ⟨b, off + 0, none⟩)) w := by
  simp [go_sem]
theorem bd_56_z (w : World) : (Instr.build 56 [].toArray).run Tryz.prog w = .ok (.agg #[.bool false, .slice none 0 0, .slice none 0 0]) w := by simp [go_sem]
theorem rs_3_0 (c0 c1 c2 : Value) : readAt false 1 #[c0, c1, c2] 0 = some c0 := rfl
theorem rs_3_1 (c0 c1 c2 : Value) : readAt false 1 #[c0, c1, c2] 1 = some c1 := rfl
abbrev fV (x : Rat) (a1 : Option Addr) (c1 : Nat) (a2 : Option Addr) (c2 : Nat) : Value := .agg #[.bool (decide (x.num < 0)), .slice a1 (dg x.num.natAbs).length c1, .slice a2 (dg (x.den - 1)).length c2]
def PostF (x : Rat) (v : Value) (Ψ : List SPred) : Prop := ∃ a1 c1 a2 c2, v = fV x a1 c1 a2 c2 ∧ (dg x.num.natAbs).length ≤ c1 ∧ (dg (x.den - 1)).length ≤ c2 ∧ Ψ = [Row a1 (List.map encn (dg x.num.natAbs)), Row a2 (List.map encn (dg (x.den - 1)))]
theorem dgQ {x : Rat} {k : Nat} (h : lenQ x ≤ k) : (dg x.num.natAbs).length ≤ 3 * k ∧ (dg x.den).length ≤ 3 * k ∧ (dg (x.den - 1)).length ≤ 3 * k := by
  obtain ⟨h1, h2⟩ := lenQ_le h
  unfold lenZ at h1
  have a1 := dg_len_wds x.num.natAbs
  have a2 := dg_len_wds x.den
  have a3 := dg_len_mono (Nat.sub_le x.den 1)
  omega
theorem sign_lt (z : Int) : decide (z.sign < 0) = decide (z < 0) := by
  apply decide_eq_decide.2
  rcases Int.lt_trichotomy z 0 with h | h | h
  · rw [Int.sign_eq_neg_one_of_neg h]; omega
  · subst h; simp
  · rw [Int.sign_eq_one_of_pos h]; omega
theorem mkRat_dg (z : Int) (d : Nat) (hd : d ≠ 0) : sgZ (decide (z < 0)) (z.natAbs / z.natAbs.gcd d) = (mkRat z d).num ∧ z.natAbs / z.natAbs.gcd d = (mkRat z d).num.natAbs ∧ d / z.natAbs.gcd d - 1 = (mkRat z d).den - 1 := by
  obtain ⟨h1, h2⟩ := mkRat_parts z d hd
  rw [sign_lt] at h1
  exact ⟨h1.symm, by rw [h1, sgZ_abs], by rw [h2]⟩

theorem C_rOne : Ctr Tryz.prog 174 [] [] (PostN 1) := by
  refine fn_intro Tryz.func174 rfl Tryz.ntmps174 nb ?_
  intro S w0 a hS h
  refine gC h (zs (zr (za rfl (zn (zs (zr (zf [_] rfl Tryz.call182 (C_rOf 1 (by decide)) ?_))))))); clear h; rintro v1 Ψ1 ⟨ad1, c1, rfl, hle1, rfl⟩ a w h
  refine gL h (za rfl (zn (zt ?_))); clear h; intro a w h
  refine ret_of (Ψ := [Row ad1 (List.map encn (dg 1))]) h (results1 h rfl (.tmp rfl)) ?_ (by simp)
  exact ⟨ad1, c1, rfl, hle1, rfl⟩

theorem C_fDen (a1 a2 : Option Addr) (c1 c2 : Nat) (x : Rat) (hx : (dg (x.den - 1)).length ≤ 300000000000) : Ctr Tryz.prog 133 [fV x a1 c1 a2 c2] [Row a2 (List.map encn (dg (x.den - 1)))] (PostN x.den) := by
  refine fn_intro Tryz.func133 rfl Tryz.ntmps133 nb ?_
  intro S w0 a hS h
  refine gC h (zs (zr (zx rfl fun b1 => za rfl (zn (zs (yD mixed_YtealgpgmbflilaaGreatDoor [0, 1, 2, 3, 4] (floatsOK_none (by kernel_rfl)) (yp rfl (.fieldAddr rfl (fa_56_1 _ _)) (yd rfl rfl mr Tryz.isAgg52 Tryz.sizeOf52 (rs_3_2 _ _ _) ?_)))))))); clear h
  refine yf [] rfl rfl Tryz.call174 (C_rOne) ?_; rintro v5 Ψ5 ⟨ad5, c5, rfl, hle5, rfl⟩
  have hl5 := dg5 1 (by decide)
  refine yf [_, _] rfl rfl Tryz.call173 (C_rAdd _ _ _ _ (x.den - 1) 1 (by omega) (by omega)) ?_; rintro v6 Ψ6 ⟨ad6, c6, rfl, hle6, rfl⟩
  have hl6 := dg_len_add (x.den - 1) 1
  refine yp rfl (.assign rfl) (yn (zt ?_)); intro a w h
  refine ret_of (Ψ := [Row ad6 (List.map encn (dg (x.den - 1 + 1)))]) h (results1 h rfl (.tmp rfl)) ?_ (by simp)
  rw [Nat.sub_add_cancel x.den_pos] at *; exact ⟨ad6, c6, rfl, hle6, rfl⟩

theorem C_fden (a1 a2 : Option Addr) (c1 c2 : Nat) (x : Rat) (hx : (dg (x.den - 1)).length ≤ 300000000000) : Ctr Tryz.prog 139 [fV x a1 c1 a2 c2] [Row a2 (List.map encn (dg (x.den - 1)))] (PostZ ((x.den : Nat) : Int)) := by
  refine fn_intro Tryz.func139 rfl Tryz.ntmps139 nb ?_
  intro S w0 a hS h
  refine gC h (zs (zr (zx rfl fun b1 => zz Tryz.zeroValue54 fun b2 => zn (zs (zr (zd rfl mr Tryz.isAgg56 Tryz.sizeOf56 (rd_3_0_3 _ _ _) ?_)))))); clear h; intro a w h
  refine gL h (zf [_] rfl Tryz.call133 (C_fDen _ _ _ _ x (by omega)) ?_); clear h; rintro v4 Ψ4 ⟨ad4, c4, rfl, hle4, rfl⟩ a w h
  refine gL h (zv [_, _] rfl Tryz.call141 (C_zFrom false ad4 c4 x.den) (zt' rfl rfl (st_2_0_2 _ _ _ _) uu Tryz.sizeOf54 rfl nb rfl ?_)); clear h; intro a w h
  refine wpList_nil (wp_ret ?_)
  refine ret_of (Ψ := [Row ad4 (List.map encn (dg x.den))]) h (results1 h rfl (.cell rfl mr Tryz.isAgg54 Tryz.sizeOf54 (rd_2_0_2 _ _))) ?_ (by simp)
  exact postZ_of rfl hle4

theorem C_fFrom (a1 a2 : Option Addr) (c1 c2 : Nat) (z : Int) (d : Nat) (hd : d ≠ 0) (h1 : (dg z.natAbs).length ≤ 300000000000) (h2 : (dg d).length ≤ 300000000000) (hc1 : (dg z.natAbs).length ≤ c1) (hc2 : (dg d).length ≤ c2) :
    Ctr Tryz.prog 136 [zV z a1 c1, .slice a2 (dg d).length c2] [Row a1 (List.map encn (dg z.natAbs)), Row a2 (List.map encn (dg d))] (PostF (mkRat z d)) := by
  have hg0 : z.natAbs.gcd d ≠ 0 := fun h => hd (Nat.gcd_eq_zero_iff.1 h).2
  have hgl := dg_len_mono (Nat.gcd_le_right (m := z.natAbs) (Nat.pos_of_ne_zero hd))
  have hql := dg_len_mono (Nat.div_le_self d (z.natAbs.gcd d))
  have hq1 : 1 ≤ d / z.natAbs.gcd d := Nat.div_pos (Nat.gcd_le_right _ (Nat.pos_of_ne_zero hd)) (Nat.pos_of_ne_zero hg0)
  have h15 := dg5 1 (by decide)
  obtain ⟨hm1, hm2, hm3⟩ := mkRat_dg z d hd
  refine fn_intro Tryz.func136 rfl Tryz.ntmps136 nb ?_
  intro S w0 a hS h
  refine gC h (zs (zr (zx rfl fun b2 => zz Tryz.zeroValue56 fun b4 => zn (zs (zr (zp (.fieldAddr rfl (fa_54_1 _ _)) (zd rfl mr Tryz.isAgg52 Tryz.sizeOf52 (rs_2_1 _ _) ?_))))))); clear h; intro a w h
  refine gL h (zm rfl (zf [_, _] rfl Tryz.call176 (C_rGcd _ _ _ _ z.natAbs d (by omega) (by omega) hc1 hc2) ?_)); clear h; rintro v13 Ψ13 ⟨ad13, c13, rfl, hle13, rfl⟩ a w h
  refine gL h (za rfl (zn (zs (zr (zp (.fieldAddr rfl (fa_54_1 _ _)) (zd rfl mr Tryz.isAgg52 Tryz.sizeOf52 (rs_2_1 _ _) ?_)))))); clear h; intro a w h
  refine gL h (zm rfl (zf [_, _] rfl Tryz.call177 (C_rDiv _ _ _ _ z.natAbs (z.natAbs.gcd d) (by omega) (by omega) hg0 hc1) ?_)); clear h; rintro v18 Ψ18 ⟨ad18, c18, bd18, d18, rfl, hle18, hlf18, rfl⟩ a w h
  refine gL h (zm rfl (zp (.extract rfl (fun _ => rfl)) (zp (.extract rfl (fun _ => rfl)) (za rfl (za rfl (zn (zs (zr (zm rfl (zm rfl (zf [_, _] rfl Tryz.call177 (C_rDiv _ _ _ _ d (z.natAbs.gcd d) (by omega) (by omega) hg0 hc2) ?_))))))))))); clear h; rintro v24 Ψ24 ⟨ad24, c24, bd24, d24, rfl, hle24, hlf24, rfl⟩ a w h
  refine gL h (zm rfl (zp (.extract rfl (fun _ => rfl)) (zp (.extract rfl (fun _ => rfl)) (za rfl (za rfl (zn (zs (zr (zp (.fieldAddr rfl (fa_54_0 _ _)) (zd rfl mr Tryz.isAgg4 Tryz.sizeOf4 (rs_2_0 _ _) ?_)))))))))); clear h; intro a w h
  refine gL h (zm rfl (zv [_, _] rfl Tryz.call141 (C_zFrom (decide (z < 0)) ad18 c18 (z.natAbs / z.natAbs.gcd d)) (zm rfl (zf [] rfl Tryz.call174 (C_rOne) ?_)))); clear h; rintro v32 Ψ32 ⟨ad32, c32, rfl, hle32, rfl⟩ a w h
  have hl32 := dg5 1 (by decide)
  refine gL h (zf [_, _] rfl Tryz.call178 (C_rSub _ _ _ _ (d / z.natAbs.gcd d) 1 (by omega) (by omega) hq1) ?_); clear h; rintro v33 Ψ33 ⟨ad33, c33, rfl, hle33, rfl⟩ a w h
  refine gL h (zp (.build [(_, _), (_, _)] rfl (bd_56_0_1 _ _ _ _ _)) (zt' rfl rfl (st_3_0_3 _ _ _ _ _ _) uu Tryz.sizeOf56 rfl nb rfl ?_)); clear h; intro a w h
  refine wpList_nil (wp_ret ?_)
  refine ret_of (Ψ := [Row ad18 (List.map encn (dg (z.natAbs / z.natAbs.gcd d))), Row ad33 (List.map encn (dg (d / z.natAbs.gcd d - 1)))]) h (results1 h rfl (.cell rfl mr Tryz.isAgg56 Tryz.sizeOf56 (rd_3_0_3 _ _ _))) ?_ (by simp)
  rw [hm1, hm2, hm3] at *; exact ⟨ad18, c18, ad33, c33, rfl, hle18, hle33, rfl⟩

theorem C_fInt (n : Int) (h0 : -9223372036854775808 ≤ n) (h1 : n ≤ 9223372036854775807) : Ctr Tryz.prog 81 [.int .i64 n] [] (PostF ((n : Int) : Rat)) := by
  refine fn_intro Tryz.func81 rfl Tryz.ntmps81 nb ?_
  intro S w0 a hS h
  refine gC h (zs (zr (zz Tryz.zeroValue56 fun b2 => zn (zs (zr (zm rfl (zf [_] rfl Tryz.call142 (C_zOf n (by omega) (by omega)) ?_))))))); clear h; rintro v4 Ψ4 ⟨ad4, c4, rfl, hle4, rfl⟩ a w h
  refine gL h (zp (.build [(_, _)] rfl (bd_56_0 _ _)) (zt' rfl rfl (st_3_0_3 _ _ _ _ _ _) uu Tryz.sizeOf56 rfl nb rfl ?_)); clear h; intro a w h
  refine wpList_nil (wp_ret ?_)
  replace h := h.derive (R := Row none []) (fun X hX hne => absurd rfl hne)
  have e1 : PostF ((n : Int) : Rat) (.agg #[.bool (decide (n < 0)), .slice ad4 (dg n.natAbs).length c4, .slice none 0 0]) [Row ad4 (List.map encn (dg n.natAbs)), Row none []] :=
    ⟨ad4, c4, none, 0, by unfold fV; rw [Rat.num_intCast, Rat.den_intCast, Nat.sub_self, dg_zero]; rfl, by rw [Rat.num_intCast]; exact hle4, by rw [Rat.den_intCast, Nat.sub_self, dg_zero]; exact Nat.le_refl _, by rw [Rat.num_intCast, Rat.den_intCast, Nat.sub_self, dg_zero]; rfl⟩
  exact ret_of h (results1 h rfl (.cell rfl mr Tryz.isAgg56 Tryz.sizeOf56 (rd_3_0_3 _ _ _))) e1 (by simp)

theorem C_fSign (x : Rat) (a1 : Option Addr) (c1 : Nat) (a2 : Option Addr) (c2 : Nat) : CtrV Tryz.prog 115 [fV x a1 c1 a2 c2] (.int .i64 x.num.sign) := by
  refine fn_intro Tryz.func115 rfl Tryz.ntmps115 nb ?_
  intro S w0 a hS h
  refine gC h (zs (zr (zx rfl fun b1 => za rfl (zn (zs (zr (zp (.fieldAddr rfl (fa_56_0 _ _)) (zd rfl mr Tryz.isAgg54 Tryz.sizeOf54 (rd_3_0_2 _ _ _) ?_)))))))); clear h; intro a w h
  refine gL h (zv [_] rfl Tryz.call164 (C_zSign x.num _ _) (za rfl (zn (zt ?_)))); clear h; intro a w h
  refine retV h (results1 h rfl (.tmp rfl)) ?_
  rfl

theorem C_fNeg (x : Rat) (a1 : Option Addr) (c1 : Nat) (a2 : Option Addr) (c2 : Nat) : CtrV Tryz.prog 135 [fV x a1 c1 a2 c2] (fV (-x) a1 c1 a2 c2) := by
  refine fn_intro Tryz.func135 rfl Tryz.ntmps135 nb ?_
  intro S w0 a hS h
  refine gC h (zs (zr (zx rfl fun b1 => zz Tryz.zeroValue56 fun b2 => zn (zs (yD mixed_YtealgpgmbflilaaGreatDoor [0, 1, 3, 4, 2, 5, 6] (floatsOK_none (by kernel_rfl)) (yp rfl (.fieldAddr rfl (fa_56_0 _ _)) (yd rfl rfl mr Tryz.isAgg54 Tryz.sizeOf54 (rd_3_0_2 _ _ _) ?_))))))); clear h
  refine yp rfl (.fieldAddr rfl (fa_56_1 _ _)) (yd rfl rfl mr Tryz.isAgg52 Tryz.sizeOf52 (rs_3_2 _ _ _) ?_)
  refine yv [_] rfl rfl Tryz.call175 (C_zNeg x.num a1 c1) (yp rfl (.build [(_, _), (_, _)] rfl (bd_56_0_1 _ _ _ _ _)) (yt rfl rfl rfl (st_3_0_3 _ _ _ _ _ _) uu Tryz.sizeOf56 rfl nb rfl ?_))
  refine yn (zt ?_); intro a w h
  refine retV h (results1 h rfl (.cell rfl mr Tryz.isAgg56 Tryz.sizeOf56 (rd_3_0_3 _ _ _))) ?_
  unfold fV; rw [Rat.neg_num, Rat.neg_den]

theorem C_fAdd (a1 p1 a2 p2 : Option Addr) (c1 q1 c2 q2 : Nat) (x y : Rat) (hx : lenQ x ≤ 10000000000) (hy : lenQ y ≤ 10000000000) : Ctr Tryz.prog 79 [fV x a1 c1 a2 c2, fV y p1 q1 p2 q2] [Row a1 (List.map encn (dg x.num.natAbs)), Row a2 (List.map encn (dg (x.den - 1))), Row p1 (List.map encn (dg y.num.natAbs)), Row p2 (List.map encn (dg (y.den - 1)))] (PostF (x + y)) := by
  obtain ⟨hx1, hx2, hx3⟩ := dgQ hx
  obtain ⟨hy1, hy2, hy3⟩ := dgQ hy
  have hdz : (((x.den : Nat) : Int)).natAbs = x.den := rfl
  have hdy : (((y.den : Nat) : Int)).natAbs = y.den := rfl
  have hxp := x.den_pos
  have hyp := y.den_pos
  have hm1 := dgz_mul x.num (y.den : Int)
  have hm2 := dgz_mul y.num (x.den : Int)
  have hm3 := dgz_mul x.num y.num
  have hs := dgz_add (x.num * (y.den : Int)) (y.num * (x.den : Int))
  have hdm := dg_len_mul x.den y.den
  rw [hdy] at hm1
  rw [hdz] at hm2
  have hq1 : (dg (((x.den : Nat) : Int)).natAbs).length = (dg x.den).length := rfl
  have hq2 : (dg (((y.den : Nat) : Int)).natAbs).length = (dg y.den).length := rfl
  refine fn_intro Tryz.func79 rfl Tryz.ntmps79 nb ?_
  intro S w0 a hS h
  refine gC h (zs (zr (zx rfl fun b2 => zx rfl fun b3 => zz Tryz.zeroValue56 fun b4 => zn (zs (yD mixed_YtealgpgmbflilaaGreatDoor [0, 1, 2, 5, 6, 7, 11, 13, 3, 4, 8, 9, 10, 12, 14, 15, 16, 17] (floatsOK_none (by kernel_rfl)) (yp rfl (.fieldAddr rfl (fa_56_0 _ _)) (yd rfl rfl mr Tryz.isAgg54 Tryz.sizeOf54 (rd_3_0_2 _ _ _) ?_))))))); clear h
  refine yd rfl rfl mr Tryz.isAgg56 Tryz.sizeOf56 (rd_3_0_3 _ _ _) ?_
  refine yp rfl (.fieldAddr rfl (fa_56_0 _ _)) (yd rfl rfl mr Tryz.isAgg54 Tryz.sizeOf54 (rd_3_0_2 _ _ _) ?_)
  refine yd rfl rfl mr Tryz.isAgg56 Tryz.sizeOf56 (rd_3_0_3 _ _ _) ?_
  refine yd rfl rfl mr Tryz.isAgg56 Tryz.sizeOf56 (rd_3_0_3 _ _ _) ?_
  refine yd rfl rfl mr Tryz.isAgg56 Tryz.sizeOf56 (rd_3_0_3 _ _ _) ?_
  refine yf [_] rfl rfl Tryz.call139 (C_fden _ _ _ _ y (by omega)) ?_; rintro v8 Ψ8 ⟨ad8, c8, rfl, hle8, rfl⟩
  refine yf [_, _] rfl rfl Tryz.call138 (C_zMul _ _ _ _ x.num (((y.den : Nat) : Int)) (by omega) (by omega)) ?_; rintro v9 Ψ9 ⟨ad9, c9, rfl, hle9, rfl⟩
  have hl9 := dgz_mul x.num (((y.den : Nat) : Int))
  refine yf [_] rfl rfl Tryz.call139 (C_fden _ _ _ _ x (by omega)) ?_; rintro v13 Ψ13 ⟨ad13, c13, rfl, hle13, rfl⟩
  refine yf [_, _] rfl rfl Tryz.call138 (C_zMul _ _ _ _ y.num (((x.den : Nat) : Int)) (by omega) (by omega)) ?_; rintro v14 Ψ14 ⟨ad14, c14, rfl, hle14, rfl⟩
  have hl14 := dgz_mul y.num (((x.den : Nat) : Int))
  refine yf [_, _] rfl rfl Tryz.call137 (C_zAdd _ _ _ _ (x.num * (((y.den : Nat) : Int))) (y.num * (((x.den : Nat) : Int))) (by omega) (by omega)) ?_; rintro v15 Ψ15 ⟨ad15, c15, rfl, hle15, rfl⟩
  refine yf [_] rfl rfl Tryz.call133 (C_fDen _ _ _ _ x (by omega)) ?_; rintro v17 Ψ17 ⟨ad17, c17, rfl, hle17, rfl⟩
  refine yf [_] rfl rfl Tryz.call133 (C_fDen _ _ _ _ y (by omega)) ?_; rintro v19 Ψ19 ⟨ad19, c19, rfl, hle19, rfl⟩
  refine yf [_, _] rfl rfl Tryz.call140 (C_rMul _ _ _ _ x.den y.den (by omega) (by omega)) ?_; rintro v20 Ψ20 ⟨ad20, c20, rfl, hle20, rfl⟩
  have hl20 := dg_len_mul x.den y.den
  refine yf [_, _] rfl rfl Tryz.call136 (C_fFrom _ _ _ _ (x.num * ((y.den : Nat) : Int) + y.num * ((x.den : Nat) : Int)) (x.den * y.den) (Nat.mul_ne_zero (by omega) (by omega)) (by omega) (by omega) hle15 hle20) ?_; rintro v21 Ψ21 ⟨ad21, c21, bd21, d21, rfl, hle21, hlf21, rfl⟩
  refine yt rfl rfl rfl (st_3_0_3 _ _ _ _ _ _) uu Tryz.sizeOf56 rfl nb rfl ?_
  refine yn (zt ?_); intro a w h
  refine ret_of (Ψ := [Row ad21 (List.map encn (dg (mkRat (x.num * ((y.den : Nat) : Int) + y.num * ((x.den : Nat) : Int)) (x.den * y.den)).num.natAbs)), Row bd21 (List.map encn (dg ((mkRat (x.num * ((y.den : Nat) : Int) + y.num * ((x.den : Nat) : Int)) (x.den * y.den)).den - 1)))]) h (results1 h rfl (.cell rfl mr Tryz.isAgg56 Tryz.sizeOf56 (rd_3_0_3 _ _ _))) ?_ (by simp)
  rw [Rat.add_def']; exact ⟨ad21, c21, bd21, d21, rfl, hle21, hlf21, rfl⟩

theorem C_fSub (a1 p1 a2 p2 : Option Addr) (c1 q1 c2 q2 : Nat) (x y : Rat) (hx : lenQ x ≤ 10000000000) (hy : lenQ y ≤ 10000000000) : Ctr Tryz.prog 78 [fV x a1 c1 a2 c2, fV y p1 q1 p2 q2] [Row a1 (List.map encn (dg x.num.natAbs)), Row a2 (List.map encn (dg (x.den - 1))), Row p1 (List.map encn (dg y.num.natAbs)), Row p2 (List.map encn (dg (y.den - 1)))] (PostF (x - y)) := by
  refine fn_intro Tryz.func78 rfl Tryz.ntmps78 nb ?_
  intro S w0 a hS h
  replace h := h.derive (R := Row p1 (List.map encn (dg (-y).num.natAbs))) (fun X hX => by rw [Rat.neg_num, Int.natAbs_neg]; exact hX _ (by simp))
  replace h := h.derive (R := Row p2 (List.map encn (dg ((-y).den - 1)))) (fun X hX => by rw [Rat.neg_den]; exact hX _ (by simp))
  refine gC h (zs (zr (zx rfl fun b2 => zx rfl fun b3 => zz Tryz.zeroValue56 fun b4 => zn (zs (yD mixed_YtealgpgmbflilaaGreatDoor [0, 1, 2, 3, 4] (floatsOK_none (by kernel_rfl)) (yd rfl rfl mr Tryz.isAgg56 Tryz.sizeOf56 (rd_3_0_3 _ _ _) ?_)))))); clear h
  refine yd rfl rfl mr Tryz.isAgg56 Tryz.sizeOf56 (rd_3_0_3 _ _ _) ?_
  refine yv [_] rfl rfl Tryz.call135 (C_fNeg y p1 q1 p2 q2) ?_
  have hl7 := lenQ_neg y
  refine yf [_, _] rfl rfl Tryz.call79 (C_fAdd _ _ _ _ _ _ _ _ x (-y) (by omega) (by omega)) ?_; rintro v8 Ψ8 ⟨ad8, c8, bd8, d8, rfl, hle8, hlf8, rfl⟩
  have hl8 := lenQ_add x (-y)
  refine yt rfl rfl rfl (st_3_0_3 _ _ _ _ _ _) uu Tryz.sizeOf56 rfl nb rfl ?_
  refine yn (zt ?_); intro a w h
  refine ret_of (Ψ := [Row ad8 (List.map encn (dg (x + -y).num.natAbs)), Row bd8 (List.map encn (dg ((x + -y).den - 1)))]) h (results1 h rfl (.cell rfl mr Tryz.isAgg56 Tryz.sizeOf56 (rd_3_0_3 _ _ _))) ?_ (by simp)
  rw [Rat.sub_eq_add_neg]; exact ⟨ad8, c8, bd8, d8, rfl, hle8, hlf8, rfl⟩

theorem C_fMul (a1 p1 a2 p2 : Option Addr) (c1 q1 c2 q2 : Nat) (x y : Rat) (hx : lenQ x ≤ 10000000000) (hy : lenQ y ≤ 10000000000) : Ctr Tryz.prog 82 [fV x a1 c1 a2 c2, fV y p1 q1 p2 q2] [Row a1 (List.map encn (dg x.num.natAbs)), Row a2 (List.map encn (dg (x.den - 1))), Row p1 (List.map encn (dg y.num.natAbs)), Row p2 (List.map encn (dg (y.den - 1)))] (PostF (x * y)) := by
  obtain ⟨hx1, hx2, hx3⟩ := dgQ hx
  obtain ⟨hy1, hy2, hy3⟩ := dgQ hy
  have hdz : (((x.den : Nat) : Int)).natAbs = x.den := rfl
  have hdy : (((y.den : Nat) : Int)).natAbs = y.den := rfl
  have hxp := x.den_pos
  have hyp := y.den_pos
  have hm1 := dgz_mul x.num (y.den : Int)
  have hm2 := dgz_mul y.num (x.den : Int)
  have hm3 := dgz_mul x.num y.num
  have hs := dgz_add (x.num * (y.den : Int)) (y.num * (x.den : Int))
  have hdm := dg_len_mul x.den y.den
  rw [hdy] at hm1
  rw [hdz] at hm2
  have hq1 : (dg (((x.den : Nat) : Int)).natAbs).length = (dg x.den).length := rfl
  have hq2 : (dg (((y.den : Nat) : Int)).natAbs).length = (dg y.den).length := rfl
  refine fn_intro Tryz.func82 rfl Tryz.ntmps82 nb ?_
  intro S w0 a hS h
  refine gC h (zs (zr (zx rfl fun b2 => zx rfl fun b3 => zz Tryz.zeroValue56 fun b4 => zn (zs (yD mixed_YtealgpgmbflilaaGreatDoor [0, 1, 2, 3, 5, 7, 4, 6, 8, 9, 10, 11] (floatsOK_none (by kernel_rfl)) (yp rfl (.fieldAddr rfl (fa_56_0 _ _)) (yd rfl rfl mr Tryz.isAgg54 Tryz.sizeOf54 (rd_3_0_2 _ _ _) ?_))))))); clear h
  refine yp rfl (.fieldAddr rfl (fa_56_0 _ _)) (yd rfl rfl mr Tryz.isAgg54 Tryz.sizeOf54 (rd_3_0_2 _ _ _) ?_)
  refine yd rfl rfl mr Tryz.isAgg56 Tryz.sizeOf56 (rd_3_0_3 _ _ _) ?_
  refine yd rfl rfl mr Tryz.isAgg56 Tryz.sizeOf56 (rd_3_0_3 _ _ _) ?_
  refine yf [_, _] rfl rfl Tryz.call138 (C_zMul _ _ _ _ x.num y.num (by omega) (by omega)) ?_; rintro v9 Ψ9 ⟨ad9, c9, rfl, hle9, rfl⟩
  have hl9 := dgz_mul x.num y.num
  refine yf [_] rfl rfl Tryz.call133 (C_fDen _ _ _ _ x (by omega)) ?_; rintro v11 Ψ11 ⟨ad11, c11, rfl, hle11, rfl⟩
  refine yf [_] rfl rfl Tryz.call133 (C_fDen _ _ _ _ y (by omega)) ?_; rintro v13 Ψ13 ⟨ad13, c13, rfl, hle13, rfl⟩
  refine yf [_, _] rfl rfl Tryz.call140 (C_rMul _ _ _ _ x.den y.den (by omega) (by omega)) ?_; rintro v14 Ψ14 ⟨ad14, c14, rfl, hle14, rfl⟩
  have hl14 := dg_len_mul x.den y.den
  refine yf [_, _] rfl rfl Tryz.call136 (C_fFrom _ _ _ _ (x.num * y.num) (x.den * y.den) (Nat.mul_ne_zero (by omega) (by omega)) (by omega) (by omega) hle9 hle14) ?_; rintro v15 Ψ15 ⟨ad15, c15, bd15, d15, rfl, hle15, hlf15, rfl⟩
  refine yt rfl rfl rfl (st_3_0_3 _ _ _ _ _ _) uu Tryz.sizeOf56 rfl nb rfl ?_
  refine yn (zt ?_); intro a w h
  refine ret_of (Ψ := [Row ad15 (List.map encn (dg (mkRat (x.num * y.num) (x.den * y.den)).num.natAbs)), Row bd15 (List.map encn (dg ((mkRat (x.num * y.num) (x.den * y.den)).den - 1)))]) h (results1 h rfl (.cell rfl mr Tryz.isAgg56 Tryz.sizeOf56 (rd_3_0_3 _ _ _))) ?_ (by simp)
  rw [Rat.mul_def']; exact ⟨ad15, c15, bd15, d15, rfl, hle15, hlf15, rfl⟩

theorem C_fInv (ad b1 : Option Addr) (c d1 : Nat) (y : Rat) (hy : y ≠ 0) (h1 : (dg y.den).length ≤ 300000000000) (h2 : (dg y.num.natAbs).length ≤ 300000000000) (hc1 : (dg y.den).length ≤ c) (hc2 : (dg y.num.natAbs).length ≤ d1) :
    Ctr Tryz.prog 136 [.agg #[.bool (decide (sgZ (decide (y.num < 0)) y.den < 0)), .slice ad (dg y.den).length c], .slice b1 (dg y.num.natAbs).length d1] [Row ad (List.map encn (dg y.den)), Row b1 (List.map encn (dg y.num.natAbs))] (PostF y⁻¹) := by
  have h0 : y.num.natAbs ≠ 0 := fun h => hy (Rat.num_eq_zero.1 (Int.natAbs_eq_zero.1 h))
  have e := sgZ_abs (decide (y.num < 0)) y.den
  have h := C_fFrom ad b1 c d1 (sgZ (decide (y.num < 0)) y.den) y.num.natAbs h0 (by rw [e]; exact h1) h2 (by rw [e]; exact hc1) hc2
  rw [← sign_lt, inv_mkRat y hy, sign_lt] at h
  unfold zV at h
  rw [e] at h
  exact h

theorem C_fDiv (a1 p1 a2 p2 : Option Addr) (c1 q1 c2 q2 : Nat) (x y : Rat) (hx : lenQ x ≤ 10000000000) (hy : lenQ y ≤ 10000000000) (hc : (dg y.num.natAbs).length ≤ q1) : Ctr Tryz.prog 80 [fV x a1 c1 a2 c2, fV y p1 q1 p2 q2] [Row a1 (List.map encn (dg x.num.natAbs)), Row a2 (List.map encn (dg (x.den - 1))), Row p1 (List.map encn (dg y.num.natAbs)), Row p2 (List.map encn (dg (y.den - 1)))] (PostF (x / y)) := by
  obtain ⟨hy1, hy2, hy3⟩ := dgQ hy
  have hi := lenQ_inv y
  refine fn_intro Tryz.func80 rfl Tryz.ntmps80 nb ?_
  intro S w0 a hS h
  refine gC h (zs (zr (zx rfl fun b2 => zx rfl fun b3 => zz Tryz.zeroValue56 fun b4 => zn (zs (zs (zr (zd rfl mr Tryz.isAgg56 Tryz.sizeOf56 (rd_3_0_3 _ _ _) ?_))))))); clear h; intro a w h
  refine gL h (zv [_] rfl Tryz.call115 (C_fSign y _ _ _ _) (zp (.eql rfl rfl) (zn ?_))); clear h; intro a w h
  change Code.wp _ _ _ _ _
  refine cond_split h rfl (fun hc7 => ?_) (fun hc7 => ?_)
  · skip
    have hz : y = 0 := Rat.num_eq_zero.1 (Int.sign_eq_zero_iff_zero.1 (eq_of_beq hc7))
    refine gC h (zs (zr (zp (.build [] rfl (bd_56_z)) (zt' rfl rfl (st_3_0_3 _ _ _ _ _ _) uu Tryz.sizeOf56 rfl nb rfl ?_)))); clear h; intro a w h
    refine wpList_nil (wp_ret ?_)
    replace h := h.derive (R := Row none []) (fun X hX hne => absurd rfl hne)
    have e1 : PostF (x / y) (.agg #[.bool false, .slice none 0 0, .slice none 0 0]) [Row none [], Row none []] := by
      subst hz; rw [Rat.div_def, Rat.inv_zero, Rat.mul_zero]
      exact ⟨none, 0, none, 0, by unfold fV; rw [show (0 : Rat).num = 0 from rfl, show (0 : Rat).den - 1 = 0 from rfl, show (0 : Int).natAbs = 0 from rfl, dg_zero]; rfl, by rw [show (0 : Rat).num = 0 from rfl, show (0 : Int).natAbs = 0 from rfl, dg_zero]; exact Nat.le_refl _, by rw [show (0 : Rat).den - 1 = 0 from rfl, dg_zero]; exact Nat.le_refl _, by rw [show (0 : Rat).num = 0 from rfl, show (0 : Rat).den - 1 = 0 from rfl, show (0 : Int).natAbs = 0 from rfl, dg_zero]; rfl⟩
    exact ret_of h (results1 h rfl (.cell rfl mr Tryz.isAgg56 Tryz.sizeOf56 (rd_3_0_3 _ _ _))) e1 (by simp)
  · skip
    have hz : y ≠ 0 := fun e => by subst e; exact absurd hc7 (by decide)
    refine gC h (zk (zs (yD mixed_YtealgpgmbflilaaGreatDoor [0, 1, 2, 3, 4, 7, 8, 9, 5, 6, 10, 11, 12] (floatsOK_none (by kernel_rfl)) (yd rfl rfl mr Tryz.isAgg56 Tryz.sizeOf56 (rd_3_0_3 _ _ _) ?_)))); clear h
    refine yp rfl (.fieldAddr rfl (fa_56_0 _ _)) (yp rfl (.fieldAddr rfl (fa_54_0 _ _)) (yd rfl rfl mr Tryz.isAgg4 Tryz.sizeOf4 (rs_3_0 _ _ _) ?_))
    refine yd rfl rfl mr Tryz.isAgg56 Tryz.sizeOf56 (rd_3_0_3 _ _ _) ?_
    refine yp rfl (.fieldAddr rfl (fa_56_0 _ _)) (yp rfl (.fieldAddr rfl (fa_54_1 _ _)) (yd rfl rfl mr Tryz.isAgg52 Tryz.sizeOf52 (rs_3_1 _ _ _) ?_))
    refine yf [_] rfl rfl Tryz.call133 (C_fDen _ _ _ _ y (by omega)) ?_; rintro v14 Ψ14 ⟨ad14, c14, rfl, hle14, rfl⟩
    refine yv [_, _] rfl rfl Tryz.call141 (C_zFrom (decide (y.num < 0)) ad14 c14 y.den) (yf [_, _] rfl rfl Tryz.call136 (C_fInv _ _ _ _ y hz (by omega) (by omega) (by omega) hc) ?_); rintro v19 Ψ19 ⟨ad19, c19, bd19, d19, rfl, hle19, hlf19, rfl⟩
    refine yf [_, _] rfl rfl Tryz.call82 (C_fMul _ _ _ _ _ _ _ _ x (y⁻¹) (by omega) (by omega)) ?_; rintro v20 Ψ20 ⟨ad20, c20, bd20, d20, rfl, hle20, hlf20, rfl⟩
    have hl20 := lenQ_mul x (y⁻¹)
    refine yt rfl rfl rfl (st_3_0_3 _ _ _ _ _ _) uu Tryz.sizeOf56 rfl nb rfl ?_
    refine yn (zt ?_); intro a w h
    refine ret_of (Ψ := [Row ad20 (List.map encn (dg (x * y⁻¹).num.natAbs)), Row bd20 (List.map encn (dg ((x * y⁻¹).den - 1)))]) h (results1 h rfl (.cell rfl mr Tryz.isAgg56 Tryz.sizeOf56 (rd_3_0_3 _ _ _))) ?_ (by simp)
    rw [Rat.div_def]; exact ⟨ad20, c20, bd20, d20, rfl, hle20, hlf20, rfl⟩

theorem C_fOf (n m : Int) (h0 : -9223372036854775808 ≤ n) (h1 : n ≤ 9223372036854775807) (h2 : -9223372036854775808 ≤ m) (h3 : m ≤ 9223372036854775807) : Ctr Tryz.prog 128 [.int .i64 n, .int .i64 m] [] (PostF (((n : Int) : Rat) / ((m : Int) : Rat))) := by
  refine fn_intro Tryz.func128 rfl Tryz.ntmps128 nb ?_
  intro S w0 a hS h
  refine gC h (zs (zr (zz Tryz.zeroValue56 fun b4 => zn (zs (zr (zm rfl (zf [_] rfl Tryz.call81 (C_fInt n (by omega) (by omega)) ?_))))))); clear h; rintro v6 Ψ6 ⟨ad6, c6, bd6, d6, rfl, hle6, hlf6, rfl⟩ a w h
  have hl6 := lenQ_int n (by omega) (by omega)
  refine gL h (zm rfl (zf [_] rfl Tryz.call81 (C_fInt m (by omega) (by omega)) ?_)); clear h; rintro v8 Ψ8 ⟨ad8, c8, bd8, d8, rfl, hle8, hlf8, rfl⟩ a w h
  have hl8 := lenQ_int m (by omega) (by omega)
  refine gL h (zf [_, _] rfl Tryz.call80 (C_fDiv _ _ _ _ _ _ _ _ (((n : Int) : Rat)) (((m : Int) : Rat)) (by omega) (by omega) (by first | assumption | omega)) ?_); clear h; rintro v9 Ψ9 ⟨ad9, c9, bd9, d9, rfl, hle9, hlf9, rfl⟩ a w h
  have hl9 := lenQ_div (((n : Int) : Rat)) (((m : Int) : Rat))
  refine gL h (zt' rfl rfl (st_3_0_3 _ _ _ _ _ _) uu Tryz.sizeOf56 rfl nb rfl ?_); clear h; intro a w h
  refine wpList_nil (wp_ret ?_)
  refine ret_of (Ψ := [Row ad9 (List.map encn (dg (((n : Int) : Rat) / ((m : Int) : Rat)).num.natAbs)), Row bd9 (List.map encn (dg ((((n : Int) : Rat) / ((m : Int) : Rat)).den - 1)))]) h (results1 h rfl (.cell rfl mr Tryz.isAgg56 Tryz.sizeOf56 (rd_3_0_3 _ _ _))) ?_ (by simp)
  exact ⟨ad9, c9, bd9, d9, rfl, hle9, hlf9, rfl⟩
end Go.Proofs.YtealgpgmbflilaaGreatDoor
