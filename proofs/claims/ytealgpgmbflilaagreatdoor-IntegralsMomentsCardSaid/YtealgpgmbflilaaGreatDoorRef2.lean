/- Written by a program of ours (gen.py) out of short specifications. By an AI agent. -/
import Derived.Test.YtealgpgmbflilaaGreatDoorRef1b
set_option linter.unusedVariables false
set_option linter.unusedSimpArgs false
set_option maxRecDepth 4000
namespace Go.Proofs.YtealgpgmbflilaaGreatDoor
open Go Go.Proofs Go.Fx
attribute [local irreducible] Oper.wp Code.wp wpList Fx.Head wpOp
theorem bd_54_0_1 (x0 : Bool) (x1 : Option Addr) (x1n : Nat) (x1c : Nat) (w : World) : (Instr.build 54 [(0, .bool x0), (1, .slice x1 x1n x1c)].toArray).run Tryz.prog w = .ok (.agg #[.bool x0, .slice x1 x1n x1c]) w := by simp [go_sem]
theorem cv_2_36b (x : Int) (h0 : IntKind.u64.wrap x = x) (w : World) : (Go.convert 2 36 (.int .i64 x)).run Tryz.prog w = .ok (.int .u64 x) w := by
  rw [cv_2_36, h0]
theorem fa_54_1 (b off : Nat) (w : World) : (Instr.fieldAt 54 (.pointer (some ⟨b, off, none⟩)) 1).run Tryz.prog w = .ok (.pointer (some ⟨b, off + 1, none⟩)) w := by
  simp [go_sem]
theorem fa_54_0 (b off : Nat) (w : World) : (Instr.fieldAt 54 (.pointer (some ⟨b, off, none⟩)) 0).run Tryz.prog w = .ok (.pointer (some ⟨b, off + 0, none⟩)) w := by
  simp [go_sem]
abbrev zV (z : Int) (ad : Option Addr) (c : Nat) : Value := .agg #[.bool (decide (z < 0)), .slice ad (dg z.natAbs).length c]
def PostZ (z : Int) (v : Value) (Ψ : List SPred) : Prop := ∃ ad c, v = zV z ad c ∧ (dg z.natAbs).length ≤ c ∧ Ψ = [Row ad (List.map encn (dg z.natAbs))]
theorem postZ_of {b : Bool} {n : Nat} {z : Int} {ad : Option Addr} {c : Nat} (hs : sgZ b n = z) (hle : (dg n).length ≤ c) : PostZ z (.agg #[.bool (decide (sgZ b n < 0)), .slice ad (dg n).length c]) [Row ad (List.map encn (dg n))] := by
  subst hs; refine ⟨ad, c, ?_, ?_, ?_⟩
  · unfold zV; rw [sgZ_abs]
  · rw [sgZ_abs]; exact hle
  · rw [sgZ_abs]
theorem dg_len_pos {n : Nat} : decide (((dg n).length : Int) > 0) = !decide (n = 0) := by
  by_cases h : n = 0
  · subst h; rw [dg_zero]; rfl
  · have : 0 < (dg n).length := List.length_pos_iff.2 (fun e => h (dg_nil.1 e))
    rw [decide_eq_true (by omega : ((dg n).length : Int) > 0)]; simp [h]
theorem dg_len_nil {n : Nat} : (((dg n).length : Int) == 0) = decide (n = 0) := by
  by_cases h : n = 0
  · subst h; rw [dg_zero]; rfl
  · have : 0 < (dg n).length := List.length_pos_iff.2 (fun e => h (dg_nil.1 e))
    rw [decide_eq_false h]; exact beq_eq_false_iff_ne.2 (by omega)
theorem zadd_same {x y : Int} (h : decide (x < 0) = decide (y < 0)) : sgZ (decide (x < 0)) (x.natAbs + y.natAbs) = x + y := by
  have h' := decide_eq_decide.1 h
  unfold sgZ; split <;> rename_i h1 <;> simp at h1 <;> omega
theorem zadd_ge {x y : Int} (h : decide (x < 0) ≠ decide (y < 0)) (hle : y.natAbs ≤ x.natAbs) : sgZ (decide (x < 0)) (x.natAbs - y.natAbs) = x + y := by
  have h' : ¬ (x < 0 ↔ y < 0) := fun e => h (decide_eq_decide.2 e)
  unfold sgZ; split <;> rename_i h1 <;> simp at h1 <;> omega
theorem zadd_lt {x y : Int} (h : decide (x < 0) ≠ decide (y < 0)) (hle : x.natAbs < y.natAbs) : sgZ (decide (y < 0)) (y.natAbs - x.natAbs) = x + y := by
  have h' : ¬ (x < 0 ↔ y < 0) := fun e => h (decide_eq_decide.2 e)
  unfold sgZ; split <;> rename_i h1 <;> simp at h1 <;> omega
theorem zmul_sg (x y : Int) : sgZ (decide (x < 0) != decide (y < 0)) (x.natAbs * y.natAbs) = x * y := by
  unfold sgZ
  have hlt : ∀ z : Int, z < 0 ∨ 0 ≤ z := fun z => by omega
  rcases hlt x with hx | hx <;> rcases hlt y with hy | hy
  · rw [decide_eq_true hx, decide_eq_true hy]; simp; rw [Int.ofNat_natAbs_of_nonpos (Int.le_of_lt hx), Int.ofNat_natAbs_of_nonpos (Int.le_of_lt hy), Int.neg_mul_neg]
  · rw [decide_eq_true hx, decide_eq_false (by omega)]; simp; rw [Int.ofNat_natAbs_of_nonpos (Int.le_of_lt hx), Int.natAbs_of_nonneg hy, Int.neg_mul, Int.neg_neg]
  · rw [decide_eq_false (by omega), decide_eq_true hy]; simp; rw [Int.ofNat_natAbs_of_nonpos (Int.le_of_lt hy), Int.natAbs_of_nonneg hx, Int.mul_neg, Int.neg_neg]
  · rw [decide_eq_false (by omega), decide_eq_false (by omega)]; simp; rw [Int.natAbs_of_nonneg hx, Int.natAbs_of_nonneg hy]
theorem dgz_mul (x y : Int) : (dg (x * y).natAbs).length ≤ (dg x.natAbs).length + (dg y.natAbs).length := by rw [Int.natAbs_mul]; exact dg_len_mul _ _
theorem dgz_add (x y : Int) : (dg (x + y).natAbs).length ≤ max (dg x.natAbs).length (dg y.natAbs).length + 1 :=
  Nat.le_trans (dg_len_mono (Int.natAbs_add_le x y)) (dg_len_add _ _)

theorem C_zFrom (b : Bool) (ad : Option Addr) (c n : Nat) : CtrV Tryz.prog 141 [.bool b, .slice ad (dg n).length c] (.agg #[.bool (decide (sgZ b n < 0)), .slice ad (dg n).length c]) := by
  refine fn_intro Tryz.func141 rfl Tryz.ntmps141 nb ?_
  intro S w0 a hS h
  refine gC h (zs (zr (zz Tryz.zeroValue54 fun b4 => zn (zs (zr (zm rfl ?_)))))); clear h; intro a w h
  refine by_bool h (fun hc5 h => ?_) (fun hc5 h => ?_)
  · skip
    refine gL h (zm rfl (zq 6 rfl rfl (.move rfl) (zq 6 rfl rfl (.builtin [_] rfl (len_slice_52 _ _ _)) (zq 6 rfl rfl (.gtr rfl rfl) (zp (.pickT rfl rfl) (zm rfl (zp (.build [(_, _), (_, _)] rfl (bd_54_0_1 _ _ _ _)) (zt' rfl rfl (st_2_0_2 _ _ _ _) uu Tryz.sizeOf54 rfl nb rfl ?_)))))))); clear h; intro a w h
    refine wpList_nil (wp_ret ?_)
    refine retV h (results1 h rfl (.cell rfl mr Tryz.isAgg54 Tryz.sizeOf54 (rd_2_0_2 _ _))) ?_
    rw [hc5, sgZ_neg, dg_len_pos]; rfl
  · skip
    refine gL h (zm rfl (zo 6 rfl rfl rfl (zo 6 rfl rfl rfl (zo 6 rfl rfl rfl (zp (.pickF rfl rfl) (zm rfl (zp (.build [(_, _), (_, _)] rfl (bd_54_0_1 _ _ _ _)) (zt' rfl rfl (st_2_0_2 _ _ _ _) uu Tryz.sizeOf54 rfl nb rfl ?_)))))))); clear h; intro a w h
    refine wpList_nil (wp_ret ?_)
    refine retV h (results1 h rfl (.cell rfl mr Tryz.isAgg54 Tryz.sizeOf54 (rd_2_0_2 _ _))) ?_
    rw [hc5, sgZ_neg]; rfl

theorem C_zOf (n : Int) (h0 : -9223372036854775808 ≤ n) (h1 : n ≤ 9223372036854775807) : Ctr Tryz.prog 142 [.int .i64 n] [] (PostZ n) := by
  refine fn_intro Tryz.func142 rfl Tryz.ntmps142 nb ?_
  intro S w0 a hS h
  refine gC h (zs (zr (zz Tryz.zeroValue54 fun b2 => zn (zs (zs (zr (zm rfl (zp (.lss rfl rfl) (zn ?_))))))))); clear h; intro a w h
  change Code.wp _ _ _ _ _
  refine cond_split h rfl (fun hc4 => ?_) (fun hc4 => ?_)
  · skip
    have hn : n < 0 := of_decide_eq_true hc4
    refine gC h (zs (zr (zm rfl (zp (.add rfl rfl) (zp (Pure1.cast (v' := .int .i64 (-(n + 1))) (.unOp rfl (fun w => run_negi _ (by omega) (by omega) w)) (by rfl)) (zp (.convert rfl (cv_2_36b _ (wrap_u64 _ (by omega) (by omega)))) (zp (Pure1.cast (v' := .int .u64 ((n.natAbs : Nat) : Int)) (.binOp rfl rfl (fun _ => run_addb _ _ _ _ _ (wrap_u64 _ (by omega) (by omega)))) (by show Value.int _ _ = Value.int _ _; congr 1; omega)) (zf [_] rfl Tryz.call182 (C_rOf n.natAbs (by omega)) ?_)))))))); clear h; rintro v10 Ψ10 ⟨ad10, c10, rfl, hle10, rfl⟩ a w h
    refine gL h (zv [_, _] rfl Tryz.call141 (C_zFrom true ad10 c10 n.natAbs) (zt' rfl rfl (st_2_0_2 _ _ _ _) uu Tryz.sizeOf54 rfl nb rfl ?_)); clear h; intro a w h
    refine wpList_nil (wp_ret ?_)
    refine ret_of (Ψ := [Row ad10 (List.map encn (dg n.natAbs))]) h (results1 h rfl (.cell rfl mr Tryz.isAgg54 Tryz.sizeOf54 (rd_2_0_2 _ _))) ?_ (by simp)
    exact postZ_of (by unfold sgZ; simp; omega) hle10
  · skip
    have hn : ¬ n < 0 := of_decide_eq_false hc4
    refine gC h (zk (zs (zr (zm rfl (zp (Pure1.cast (v' := .int .u64 ((n.natAbs : Nat) : Int)) (.convert rfl (cv_2_36b _ (wrap_u64 _ (by omega) (by omega)))) (by show Value.int _ _ = Value.int _ _; congr 1; omega)) (zf [_] rfl Tryz.call182 (C_rOf n.natAbs (by omega)) ?_)))))); clear h; rintro v14 Ψ14 ⟨ad14, c14, rfl, hle14, rfl⟩ a w h
    refine gL h (zv [_, _] rfl Tryz.call141 (C_zFrom false ad14 c14 n.natAbs) (zt' rfl rfl (st_2_0_2 _ _ _ _) uu Tryz.sizeOf54 rfl nb rfl ?_)); clear h; intro a w h
    refine wpList_nil (wp_ret ?_)
    refine ret_of (Ψ := [Row ad14 (List.map encn (dg n.natAbs))]) h (results1 h rfl (.cell rfl mr Tryz.isAgg54 Tryz.sizeOf54 (rd_2_0_2 _ _))) ?_ (by simp)
    exact postZ_of (by unfold sgZ; simp; omega) hle14

theorem C_zSign (z : Int) (ad : Option Addr) (c : Nat) : CtrV Tryz.prog 164 [zV z ad c] (.int .i64 z.sign) := by
  refine fn_intro Tryz.func164 rfl Tryz.ntmps164 nb ?_
  intro S w0 a hS h
  refine gC h (zs (zr (zx rfl fun b1 => za rfl (zn (zs (zs (zr (zp (.fieldAddr rfl (fa_54_1 _ _)) (zd rfl mr Tryz.isAgg52 Tryz.sizeOf52 (rs_2_1 _ _) ?_))))))))); clear h; intro a w h
  refine gL h (zp (.builtin [_] rfl (len_slice_52 _ _ _)) (zp (.eql rfl rfl) (zn ?_))); clear h; intro a w h
  change Code.wp _ _ _ _ _
  refine cond_split h rfl (fun hc6 => ?_) (fun hc6 => ?_)
  · skip
    have hz : z.natAbs = 0 := by rw [dg_len_nil] at hc6; exact of_decide_eq_true hc6
    refine gC h (zs (zr (za rfl (zn (zt ?_))))); clear h; intro a w h
    refine retV h (results1 h rfl (.tmp rfl)) ?_
    rw [Int.natAbs_eq_zero.1 hz]; rfl
  · skip
    have hz : z.natAbs ≠ 0 := by rw [dg_len_nil] at hc6; exact of_decide_eq_false hc6
    refine gC h (zk (zs (zs (zr (zp (.fieldAddr rfl (fa_54_0 _ _)) (zd rfl mr Tryz.isAgg4 Tryz.sizeOf4 (rs_2_0 _ _) ?_)))))); clear h; intro a w h
    refine wpList_nil ?_
    change Code.wp _ _ _ _ _
    refine cond_split h rfl (fun hc8 => ?_) (fun hc8 => ?_)
    · skip
      have hs : z < 0 := of_decide_eq_true hc8
      refine gC h (zs (zr (za rfl (zn (zt ?_))))); clear h; intro a w h
      refine retV h (results1 h rfl (.tmp rfl)) ?_
      rw [Int.sign_eq_neg_one_of_neg hs]
    · skip
      have hs : ¬ z < 0 := of_decide_eq_false hc8
      refine gC h (zk (zs (zr (za rfl (zn (zt ?_)))))); clear h; intro a w h
      refine retV h (results1 h rfl (.tmp rfl)) ?_
      rw [Int.sign_eq_one_of_pos (by omega)]

theorem C_zNeg (z : Int) (ad : Option Addr) (c : Nat) : CtrV Tryz.prog 175 [zV z ad c] (zV (-z) ad c) := by
  refine fn_intro Tryz.func175 rfl Tryz.ntmps175 nb ?_
  intro S w0 a hS h
  refine gC h (zs (zr (zx rfl fun b1 => zz Tryz.zeroValue54 fun b2 => zn (zs (zr (zp (.fieldAddr rfl (fa_54_0 _ _)) (zd rfl mr Tryz.isAgg4 Tryz.sizeOf4 (rs_2_0 _ _) ?_))))))); clear h; intro a w h
  refine gL h (zp (.unOp rfl (un_not _)) (zp (.fieldAddr rfl (fa_54_1 _ _)) (zd rfl mr Tryz.isAgg52 Tryz.sizeOf52 (rs_2_1 _ _) ?_))); clear h; intro a w h
  refine gL h (zv [_, _] rfl Tryz.call141 (C_zFrom (!decide (z < 0)) ad c z.natAbs) (zt' rfl rfl (st_2_0_2 _ _ _ _) uu Tryz.sizeOf54 rfl nb rfl ?_)); clear h; intro a w h
  refine wpList_nil (wp_ret ?_)
  refine retV h (results1 h rfl (.cell rfl mr Tryz.isAgg54 Tryz.sizeOf54 (rd_2_0_2 _ _))) ?_
  unfold zV; rw [show sgZ (!decide (z < 0)) z.natAbs = -z from by unfold sgZ; split <;> rename_i h1 <;> simp at h1 <;> omega, Int.natAbs_neg]

theorem C_zAdd (a1 a2 : Option Addr) (c1 c2 : Nat) (x y : Int) (h1 : (dg x.natAbs).length ≤ 300000000000) (h2 : (dg y.natAbs).length ≤ 300000000000) : Ctr Tryz.prog 137 [zV x a1 c1, zV y a2 c2] [Row a1 (List.map encn (dg x.natAbs)), Row a2 (List.map encn (dg y.natAbs))] (PostZ (x + y)) := by
  refine fn_intro Tryz.func137 rfl Tryz.ntmps137 nb ?_
  intro S w0 a hS h
  refine gC h (zs (zr (zx rfl fun b2 => zx rfl fun b3 => zz Tryz.zeroValue54 fun b4 => zn (zs (zs (zr (zp (.fieldAddr rfl (fa_54_0 _ _)) (zd rfl mr Tryz.isAgg4 Tryz.sizeOf4 (rs_2_0 _ _) ?_)))))))); clear h; intro a w h
  refine gL h (zp (.fieldAddr rfl (fa_54_0 _ _)) (zd rfl mr Tryz.isAgg4 Tryz.sizeOf4 (rs_2_0 _ _) ?_)); clear h; intro a w h
  refine gL h (zp (.binOp rfl rfl (fun _ => run_beql _ Tryz.underlying4 _ _ _ _)) (zn ?_)); clear h; intro a w h
  change Code.wp _ _ _ _ _
  refine cond_split h rfl (fun hc9 => ?_) (fun hc9 => ?_)
  · skip
    have hs := eq_of_beq hc9
    refine gC h (zs (yD mixed_YtealgpgmbflilaaGreatDoor [0, 1, 2, 3, 4, 5, 6, 7, 8] (floatsOK_none (by kernel_rfl)) (yp rfl (.fieldAddr rfl (fa_54_0 _ _)) (yd rfl rfl mr Tryz.isAgg4 Tryz.sizeOf4 (rs_2_0 _ _) ?_)))); clear h
    refine yp rfl (.fieldAddr rfl (fa_54_1 _ _)) (yd rfl rfl mr Tryz.isAgg52 Tryz.sizeOf52 (rs_2_1 _ _) ?_)
    refine yp rfl (.fieldAddr rfl (fa_54_1 _ _)) (yd rfl rfl mr Tryz.isAgg52 Tryz.sizeOf52 (rs_2_1 _ _) ?_)
    refine yf [_, _] rfl rfl Tryz.call173 (C_rAdd _ _ _ _ x.natAbs y.natAbs (by omega) (by omega)) ?_; rintro v16 Ψ16 ⟨ad16, c16, rfl, hle16, rfl⟩
    have hl16 := dg_len_add x.natAbs y.natAbs
    refine yv [_, _] rfl rfl Tryz.call141 (C_zFrom (decide (x < 0)) ad16 c16 (x.natAbs + y.natAbs)) (yt rfl rfl rfl (st_2_0_2 _ _ _ _) uu Tryz.sizeOf54 rfl nb rfl ?_)
    refine yn (zt ?_); intro a w h
    refine ret_of (Ψ := [Row ad16 (List.map encn (dg (x.natAbs + y.natAbs)))]) h (results1 h rfl (.cell rfl mr Tryz.isAgg54 Tryz.sizeOf54 (rd_2_0_2 _ _))) ?_ (by simp)
    exact postZ_of (zadd_same hs) hle16
  · skip
    have hs := ne_of_beq_false hc9
    refine gC h (zk (zs (zs (zr (zp (.fieldAddr rfl (fa_54_1 _ _)) (zd rfl mr Tryz.isAgg52 Tryz.sizeOf52 (rs_2_1 _ _) ?_)))))); clear h; intro a w h
    refine gL h (zp (.fieldAddr rfl (fa_54_1 _ _)) (zd rfl mr Tryz.isAgg52 Tryz.sizeOf52 (rs_2_1 _ _) ?_)); clear h; intro a w h
    refine gL h (zw [_, _] rfl Tryz.call179 (C_rCmp _ _ _ _ x.natAbs y.natAbs (by omega) (by omega)) (zp (.geq rfl rfl) (zn ?_))); clear h; intro a w h
    change Code.wp _ _ _ _ _
    refine cond_split h rfl (fun hc23 => ?_) (fun hc23 => ?_)
    · skip
      have hle : y.natAbs ≤ x.natAbs := by
        have h3 := of_decide_eq_true hc23
        unfold cmpI at h3; split at h3 <;> omega
      refine gC h (zs (yD mixed_YtealgpgmbflilaaGreatDoor [0, 1, 2, 3, 4, 5, 6, 7, 8] (floatsOK_none (by kernel_rfl)) (yp rfl (.fieldAddr rfl (fa_54_0 _ _)) (yd rfl rfl mr Tryz.isAgg4 Tryz.sizeOf4 (rs_2_0 _ _) ?_)))); clear h
      refine yp rfl (.fieldAddr rfl (fa_54_1 _ _)) (yd rfl rfl mr Tryz.isAgg52 Tryz.sizeOf52 (rs_2_1 _ _) ?_)
      refine yp rfl (.fieldAddr rfl (fa_54_1 _ _)) (yd rfl rfl mr Tryz.isAgg52 Tryz.sizeOf52 (rs_2_1 _ _) ?_)
      refine yf [_, _] rfl rfl Tryz.call178 (C_rSub _ _ _ _ x.natAbs y.natAbs (by omega) (by omega) hle) ?_; rintro v30 Ψ30 ⟨ad30, c30, rfl, hle30, rfl⟩
      refine yv [_, _] rfl rfl Tryz.call141 (C_zFrom (decide (x < 0)) ad30 c30 (x.natAbs - y.natAbs)) (yt rfl rfl rfl (st_2_0_2 _ _ _ _) uu Tryz.sizeOf54 rfl nb rfl ?_)
      refine yn (zt ?_); intro a w h
      refine ret_of (Ψ := [Row ad30 (List.map encn (dg (x.natAbs - y.natAbs)))]) h (results1 h rfl (.cell rfl mr Tryz.isAgg54 Tryz.sizeOf54 (rd_2_0_2 _ _))) ?_ (by simp)
      exact postZ_of (zadd_ge hs hle) hle30
    · skip
      have hle : x.natAbs < y.natAbs := by
        have h3 := of_decide_eq_false hc23
        unfold cmpI at h3; split at h3
        · assumption
        · split at h3 <;> omega
      refine gC h (zk (zs (yD mixed_YtealgpgmbflilaaGreatDoor [0, 1, 2, 3, 4, 5, 6, 7, 8] (floatsOK_none (by kernel_rfl)) (yp rfl (.fieldAddr rfl (fa_54_0 _ _)) (yd rfl rfl mr Tryz.isAgg4 Tryz.sizeOf4 (rs_2_0 _ _) ?_))))); clear h
      refine yp rfl (.fieldAddr rfl (fa_54_1 _ _)) (yd rfl rfl mr Tryz.isAgg52 Tryz.sizeOf52 (rs_2_1 _ _) ?_)
      refine yp rfl (.fieldAddr rfl (fa_54_1 _ _)) (yd rfl rfl mr Tryz.isAgg52 Tryz.sizeOf52 (rs_2_1 _ _) ?_)
      refine yf [_, _] rfl rfl Tryz.call178 (C_rSub _ _ _ _ y.natAbs x.natAbs (by omega) (by omega) (Nat.le_of_lt hle)) ?_; rintro v38 Ψ38 ⟨ad38, c38, rfl, hle38, rfl⟩
      refine yv [_, _] rfl rfl Tryz.call141 (C_zFrom (decide (y < 0)) ad38 c38 (y.natAbs - x.natAbs)) (yt rfl rfl rfl (st_2_0_2 _ _ _ _) uu Tryz.sizeOf54 rfl nb rfl ?_)
      refine yn (zt ?_); intro a w h
      refine ret_of (Ψ := [Row ad38 (List.map encn (dg (y.natAbs - x.natAbs)))]) h (results1 h rfl (.cell rfl mr Tryz.isAgg54 Tryz.sizeOf54 (rd_2_0_2 _ _))) ?_ (by simp)
      exact postZ_of (zadd_lt hs hle) hle38

theorem C_zMul (a1 a2 : Option Addr) (c1 c2 : Nat) (x y : Int) (h1 : (dg x.natAbs).length ≤ 300000000000) (h2 : (dg y.natAbs).length ≤ 300000000000) : Ctr Tryz.prog 138 [zV x a1 c1, zV y a2 c2] [Row a1 (List.map encn (dg x.natAbs)), Row a2 (List.map encn (dg y.natAbs))] (PostZ (x * y)) := by
  refine fn_intro Tryz.func138 rfl Tryz.ntmps138 nb ?_
  intro S w0 a hS h
  refine gC h (zs (zr (zx rfl fun b2 => zx rfl fun b3 => zz Tryz.zeroValue54 fun b4 => zn (zs (yD mixed_YtealgpgmbflilaaGreatDoor [0, 1, 2, 3, 4, 5, 6, 7, 8, 9, 10, 11] (floatsOK_none (by kernel_rfl)) (yp rfl (.fieldAddr rfl (fa_54_0 _ _)) (yd rfl rfl mr Tryz.isAgg4 Tryz.sizeOf4 (rs_2_0 _ _) ?_))))))); clear h
  refine yp rfl (.fieldAddr rfl (fa_54_0 _ _)) (yd rfl rfl mr Tryz.isAgg4 Tryz.sizeOf4 (rs_2_0 _ _) ?_)
  refine yp rfl (.binOp rfl rfl (fun _ => run_bneq _ Tryz.underlying4 _ _ _ _)) (yp rfl (.fieldAddr rfl (fa_54_1 _ _)) (yd rfl rfl mr Tryz.isAgg52 Tryz.sizeOf52 (rs_2_1 _ _) ?_))
  refine yp rfl (.fieldAddr rfl (fa_54_1 _ _)) (yd rfl rfl mr Tryz.isAgg52 Tryz.sizeOf52 (rs_2_1 _ _) ?_)
  refine yf [_, _] rfl rfl Tryz.call140 (C_rMul _ _ _ _ x.natAbs y.natAbs (by omega) (by omega)) ?_; rintro v14 Ψ14 ⟨ad14, c14, rfl, hle14, rfl⟩
  have hl14 := dg_len_mul x.natAbs y.natAbs
  refine yv [_, _] rfl rfl Tryz.call141 (C_zFrom (decide (x < 0) != decide (y < 0)) ad14 c14 (x.natAbs * y.natAbs)) (yt rfl rfl rfl (st_2_0_2 _ _ _ _) uu Tryz.sizeOf54 rfl nb rfl ?_)
  refine yn (zt ?_); intro a w h
  refine ret_of (Ψ := [Row ad14 (List.map encn (dg (x.natAbs * y.natAbs)))]) h (results1 h rfl (.cell rfl mr Tryz.isAgg54 Tryz.sizeOf54 (rd_2_0_2 _ _))) ?_ (by simp)
  exact postZ_of (zmul_sg x y) hle14
end Go.Proofs.YtealgpgmbflilaaGreatDoor
