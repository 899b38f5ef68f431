/- Written by a program of ours (gen.py) out of short specifications. By an AI agent. -/
import Derived.Test.YtealgpgmbflilaaGreatDoorRef4
set_option linter.unusedVariables false
set_option linter.unusedSimpArgs false
set_option maxRecDepth 4000
namespace Go.Proofs.YtealgpgmbflilaaGreatDoor
open Go Go.Proofs Go.Fx
attribute [local irreducible] Oper.wp Code.wp wpList Fx.Head wpOp

theorem mom_eq (i j k : Nat) : momentQ i j k = 2 * (fq i * fq j * fq k / fq (i + j + k + 2)) := by
  have e2 : ((2 : Int) : Rat) = 2 := rfl
  unfold momentQ ratioQ
  simp only [List.foldl_cons, List.foldl_nil]
  rw [down_fq, up_fq, up_fq, up_fq, e2]
  congr 2; grind
theorem mom_rot (i j k : Nat) : momentQ i j k = momentQ j k i := by
  rw [mom_eq, mom_eq, show j + k + i + 2 = i + j + k + 2 by omega]; congr 2; grind
theorem mom_swap (i j k : Nat) : momentQ i j k = momentQ j i k := by
  rw [mom_eq, mom_eq, show j + i + k + 2 = i + j + k + 2 by omega]; congr 2; grind
theorem mom_sum (i j k : Nat) : [momentQ (i + 1) j k, momentQ i (j + 1) k, momentQ i j (k + 1)].foldl (· + ·) 0 = momentQ i j k := by
  simp only [List.foldl_cons, List.foldl_nil]
  rw [mom_eq, mom_eq, mom_eq, mom_eq, show i + 1 + j + k + 2 = (i + j + k + 2) + 1 by omega, show i + (j + 1) + k + 2 = (i + j + k + 2) + 1 by omega, show i + j + (k + 1) + 2 = (i + j + k + 2) + 1 by omega]
  have n0 := fq_ne (i + j + k + 2)
  have n1 := cast_ne (i + j + k + 2)
  have e1 : fq (i + j + k + 2 + 1) = fq (i + j + k + 2) * (((i + j + k + 2 + 1 : Nat) : Int) : Rat) := rfl
  have e2 : fq (i + 1) = fq i * (((i + 1 : Nat) : Int) : Rat) := rfl
  have e3 : fq (j + 1) = fq j * (((j + 1 : Nat) : Int) : Rat) := rfl
  have e4 : fq (k + 1) = fq k * (((k + 1 : Nat) : Int) : Rat) := rfl
  have e5 : (((i + j + k + 2 + 1 : Nat) : Int) : Rat) = (((i + 1 : Nat) : Int) : Rat) + (((j + 1 : Nat) : Int) : Rat) + (((k + 1 : Nat) : Int) : Rat) := by
    rw [← cast_add, ← cast_add]; congr 2; omega
  rw [e1, e2, e3, e4, e5]
  rw [e5] at n1
  clear e1 e2 e3 e4 e5
  generalize (((i + 1 : Nat) : Int) : Rat) = a at *
  generalize (((j + 1 : Nat) : Int) : Rat) = b at *
  generalize (((k + 1 : Nat) : Int) : Rat) = c at *
  generalize fq (i + j + k + 2) = d at *
  generalize fq i = x at *
  generalize fq j = y at *
  generalize fq k = z at *
  grind
theorem f0_rows {X : Nat → Prop} {w : World} : (Row none (List.map encn (dg (0 : Rat).num.natAbs))).p X w ∧ (Row none (List.map encn (dg ((0 : Rat).den - 1)))).p X w := by
  have e1 : dg (0 : Rat).num.natAbs = [] := by rw [show (0 : Rat).num.natAbs = 0 from rfl, dg_zero]
  have e2 : dg ((0 : Rat).den - 1) = [] := by rw [show (0 : Rat).den - 1 = 0 from rfl, dg_zero]
  rw [e1, e2]; exact ⟨fun hne => absurd rfl hne, fun hne => absurd rfl hne⟩
theorem f0_val : (fV 0 none 0 none 0 : Value) = .agg #[.bool false, .slice none 0 0, .slice none 0 0] := by
  unfold fV; rw [show (0 : Rat).num = 0 from rfl, show (0 : Rat).den - 1 = 0 from rfl, show (0 : Int).natAbs = 0 from rfl, dg_zero]; rfl

theorem C_rMoment_out (i j k : Int) (hout : ¬ (0 ≤ i ∧ i ≤ 48 ∧ 0 ≤ j ∧ j ≤ 48 ∧ 0 ≤ k ∧ k ≤ 48)) : CtrV Tryz.prog 35 [.int .i64 i, .int .i64 j, .int .i64 k] (fV 0 none 0 none 0) := by
  refine fn_intro Tryz.func35 rfl Tryz.ntmps35 nb ?_
  intro S w0 a hS h
  refine gC h (zs (zr (zz zeroF fun b6 => zn (zs (zs (zr (zm rfl (zp (.lss rfl rfl) ?_)))))))); clear h; intro a w h
  refine by_bool h (fun hc9 h => ?_) (fun hc9 h => ?_)
  · skip
    have h9 : i < 0 := of_decide_eq_true hc9
    refine gL h (zm rfl (zo 10 rfl rfl rfl (zo 10 rfl rfl rfl (zp (.pickT rfl rfl) (zm rfl (zo 14 rfl rfl rfl (zo 14 rfl rfl rfl (zp (.pickT rfl rfl) (zm rfl (zo 18 rfl rfl rfl (zo 18 rfl rfl rfl (zp (.pickT rfl rfl) (zm rfl (zo 22 rfl rfl rfl (zo 22 rfl rfl rfl (zp (.pickT rfl rfl) (zm rfl (zo 26 rfl rfl rfl (zo 26 rfl rfl rfl (zp (.pickT rfl rfl) (zn ?_))))))))))))))))))))); clear h; intro a w h
    change Code.wp _ _ _ _ _
    refine cond_true h rfl ?_
    refine gC h (zs (zr (zp (.build [] rfl (bd_56_z)) (zt' rfl rfl (st_3_0_3 _ _ _ _ _ _) uu Tryz.sizeOf56 rfl nb rfl ?_)))); clear h; intro a w h
    refine wpList_nil (wp_ret ?_)
    refine retV h (results1 h rfl (.cell rfl mr Tryz.isAgg56 Tryz.sizeOf56 (rd_3_0_3 _ _ _))) ?_
    exact f0_val.symm
  · skip
    have h9 : ¬ i < 0 := of_decide_eq_false hc9
    refine gL h (zm rfl (zq 10 rfl rfl (.move rfl) (zq 10 rfl rfl (.lss rfl rfl) ?_))); clear h; intro a w h
    refine by_bool h (fun hc12 h => ?_) (fun hc12 h => ?_)
    · skip
      have h12 : j < 0 := of_decide_eq_true hc12
      refine gL h (zp (.pickF rfl rfl) (zm rfl (zo 14 rfl rfl rfl (zo 14 rfl rfl rfl (zp (.pickT rfl rfl) (zm rfl (zo 18 rfl rfl rfl (zo 18 rfl rfl rfl (zp (.pickT rfl rfl) (zm rfl (zo 22 rfl rfl rfl (zo 22 rfl rfl rfl (zp (.pickT rfl rfl) (zm rfl (zo 26 rfl rfl rfl (zo 26 rfl rfl rfl (zp (.pickT rfl rfl) (zn ?_)))))))))))))))))); clear h; intro a w h
      change Code.wp _ _ _ _ _
      refine cond_true h rfl ?_
      refine gC h (zs (zr (zp (.build [] rfl (bd_56_z)) (zt' rfl rfl (st_3_0_3 _ _ _ _ _ _) uu Tryz.sizeOf56 rfl nb rfl ?_)))); clear h; intro a w h
      refine wpList_nil (wp_ret ?_)
      refine retV h (results1 h rfl (.cell rfl mr Tryz.isAgg56 Tryz.sizeOf56 (rd_3_0_3 _ _ _))) ?_
      exact f0_val.symm
    · skip
      have h12 : ¬ j < 0 := of_decide_eq_false hc12
      refine gL h (zp (.pickF rfl rfl) (zm rfl (zq 14 rfl rfl (.move rfl) (zq 14 rfl rfl (.lss rfl rfl) ?_)))); clear h; intro a w h
      refine by_bool h (fun hc16 h => ?_) (fun hc16 h => ?_)
      · skip
        have h16 : k < 0 := of_decide_eq_true hc16
        refine gL h (zp (.pickF rfl rfl) (zm rfl (zo 18 rfl rfl rfl (zo 18 rfl rfl rfl (zp (.pickT rfl rfl) (zm rfl (zo 22 rfl rfl rfl (zo 22 rfl rfl rfl (zp (.pickT rfl rfl) (zm rfl (zo 26 rfl rfl rfl (zo 26 rfl rfl rfl (zp (.pickT rfl rfl) (zn ?_)))))))))))))); clear h; intro a w h
        change Code.wp _ _ _ _ _
        refine cond_true h rfl ?_
        refine gC h (zs (zr (zp (.build [] rfl (bd_56_z)) (zt' rfl rfl (st_3_0_3 _ _ _ _ _ _) uu Tryz.sizeOf56 rfl nb rfl ?_)))); clear h; intro a w h
        refine wpList_nil (wp_ret ?_)
        refine retV h (results1 h rfl (.cell rfl mr Tryz.isAgg56 Tryz.sizeOf56 (rd_3_0_3 _ _ _))) ?_
        exact f0_val.symm
      · skip
        have h16 : ¬ k < 0 := of_decide_eq_false hc16
        refine gL h (zp (.pickF rfl rfl) (zm rfl (zq 18 rfl rfl (.move rfl) (zq 18 rfl rfl (.gtr rfl rfl) ?_)))); clear h; intro a w h
        refine by_bool h (fun hc20 h => ?_) (fun hc20 h => ?_)
        · skip
          have h20 : i > 48 := of_decide_eq_true hc20
          refine gL h (zp (.pickF rfl rfl) (zm rfl (zo 22 rfl rfl rfl (zo 22 rfl rfl rfl (zp (.pickT rfl rfl) (zm rfl (zo 26 rfl rfl rfl (zo 26 rfl rfl rfl (zp (.pickT rfl rfl) (zn ?_)))))))))); clear h; intro a w h
          change Code.wp _ _ _ _ _
          refine cond_true h rfl ?_
          refine gC h (zs (zr (zp (.build [] rfl (bd_56_z)) (zt' rfl rfl (st_3_0_3 _ _ _ _ _ _) uu Tryz.sizeOf56 rfl nb rfl ?_)))); clear h; intro a w h
          refine wpList_nil (wp_ret ?_)
          refine retV h (results1 h rfl (.cell rfl mr Tryz.isAgg56 Tryz.sizeOf56 (rd_3_0_3 _ _ _))) ?_
          exact f0_val.symm
        · skip
          have h20 : ¬ i > 48 := of_decide_eq_false hc20
          refine gL h (zp (.pickF rfl rfl) (zm rfl (zq 22 rfl rfl (.move rfl) (zq 22 rfl rfl (.gtr rfl rfl) ?_)))); clear h; intro a w h
          refine by_bool h (fun hc24 h => ?_) (fun hc24 h => ?_)
          · skip
            have h24 : j > 48 := of_decide_eq_true hc24
            refine gL h (zp (.pickF rfl rfl) (zm rfl (zo 26 rfl rfl rfl (zo 26 rfl rfl rfl (zp (.pickT rfl rfl) (zn ?_)))))); clear h; intro a w h
            change Code.wp _ _ _ _ _
            refine cond_true h rfl ?_
            refine gC h (zs (zr (zp (.build [] rfl (bd_56_z)) (zt' rfl rfl (st_3_0_3 _ _ _ _ _ _) uu Tryz.sizeOf56 rfl nb rfl ?_)))); clear h; intro a w h
            refine wpList_nil (wp_ret ?_)
            refine retV h (results1 h rfl (.cell rfl mr Tryz.isAgg56 Tryz.sizeOf56 (rd_3_0_3 _ _ _))) ?_
            exact f0_val.symm
          · skip
            have h24 : ¬ j > 48 := of_decide_eq_false hc24
            refine gL h (zp (.pickF rfl rfl) (zm rfl (zq 26 rfl rfl (.move rfl) (zq 26 rfl rfl (.gtr rfl rfl) ?_)))); clear h; intro a w h
            refine by_bool h (fun hc28 h => ?_) (fun hc28 h => (by exfalso; have := of_decide_eq_false hc28; omega))
            refine gL h (zp (.pickF rfl rfl) (zn ?_)); clear h; intro a w h
            change Code.wp _ _ _ _ _
            refine cond_true h rfl ?_
            refine gC h (zs (zr (zp (.build [] rfl (bd_56_z)) (zt' rfl rfl (st_3_0_3 _ _ _ _ _ _) uu Tryz.sizeOf56 rfl nb rfl ?_)))); clear h; intro a w h
            refine wpList_nil (wp_ret ?_)
            refine retV h (results1 h rfl (.cell rfl mr Tryz.isAgg56 Tryz.sizeOf56 (rd_3_0_3 _ _ _))) ?_
            exact f0_val.symm

theorem C_IM_out (i j k : Int) (hout : ¬ (0 ≤ i ∧ i ≤ 48 ∧ 0 ≤ j ∧ j ≤ 48 ∧ 0 ≤ k ∧ k ≤ 48)) : CtrW Tryz.prog 5 [.int .i64 i, .int .i64 j, .int .i64 k] [TabF] (.bool true) := by
  have h1 : ¬ ∀ m, m < 3 → 0 ≤ [i, j, k].getD m 0 ∧ [i, j, k].getD m 0 ≤ 48 := fun h => hout (by have a := h 0 (by decide); have b := h 1 (by decide); have c := h 2 (by decide); simp at a b c; omega)
  have h2 : ¬ ∀ m, m < 3 → 0 ≤ [j, k, i].getD m 0 ∧ [j, k, i].getD m 0 ≤ 48 := fun h => hout (by have a := h 0 (by decide); have b := h 1 (by decide); have c := h 2 (by decide); simp at a b c; omega)
  have h3 : ¬ ∀ m, m < 3 → 0 ≤ [j, i, k].getD m 0 ∧ [j, i, k].getD m 0 ≤ 48 := fun h => hout (by have a := h 0 (by decide); have b := h 1 (by decide); have c := h 2 (by decide); simp at a b c; omega)
  refine fn_intro Tryz.func5 rfl Tryz.ntmps5 nb ?_
  intro S w0 a hS h
  replace h := h.derive (R := Row none (List.map encn (dg ((0 : Rat).den - 1)))) (fun X _ => f0_rows.2)
  replace h := h.derive (R := Row none (List.map encn (dg (0 : Rat).num.natAbs))) (fun X _ => f0_rows.1)
  refine gC h (zs (zr (za rfl (zn (zs (zr (zm rfl (zm rfl (zm rfl (zv [_, _, _] rfl Tryz.call34 (C_Moment_out i j k h1) (zz zeroQ fun b7 => zt' rfl rfl (st_5_0_5 _ _ _ _ _ _ _ _ _ _) uu Tryz.sizeOf44 rfl nb rfl ?_))))))))))); clear h; intro a w h
  refine gL h (zn (zs (zs (yD mixed_YtealgpgmbflilaaGreatDoor [0, 1, 2, 3, 4, 5, 6, 7, 8, 9, 10, 11, 12, 13, 14, 15, 16, 17, 18, 19, 20, 21, 22] (floatsOK_none (by kernel_rfl)) (yd rfl rfl mr Tryz.isAgg44 Tryz.sizeOf44 (rd_5_0_5 _ _ _ _ _) ?_))))); clear h
  refine yp rfl (.move rfl) (yp rfl (.move rfl) (yp rfl (.move rfl) (yv [_, _, _] rfl rfl Tryz.call35 (C_rMoment_out i j k hout) (yw [_, _] rfl rfl Tryz.call18 (C_SameG none none 0 0 0 0 (Nat.le_trans lenQ_zero (by decide)) rfl) (yp rfl (.unOp rfl (un_not _)) ?_)))))
  refine head_bool (fun hc18  => (by exfalso; cases hc18)) (fun hc18  => ?_)
  refine yp rfl (.move rfl) (yg rfl rfl rfl rfl mr Tryz.isAgg44 Tryz.sizeOf44 (rd_5_0_5 _ _ _ _ _) ?_)
  refine yq rfl rfl rfl (.move rfl) (yq rfl rfl rfl (.move rfl) (yq rfl rfl rfl (.move rfl) ?_))
  refine head_callVG rfl rfl rfl (by kernel_rfl) (vs := [_, _, _]) rfl Tryz.call34 (C_Moment_out j k i h2) (by decide) ?_
  refine yq rfl rfl rfl (.binOp rfl rfl (fun _ => run_neQ _ _ 0 0 _)) ?_
  refine head_bool (fun hc25  => (by exfalso; exact clN rfl hc25)) (fun hc25  => ?_)
  refine yp rfl (.pickF rfl rfl) (yp rfl (.move rfl) (yg rfl rfl rfl rfl mr Tryz.isAgg44 Tryz.sizeOf44 (rd_5_0_5 _ _ _ _ _) ?_))
  refine yq rfl rfl rfl (.move rfl) (yq rfl rfl rfl (.move rfl) (yq rfl rfl rfl (.move rfl) ?_))
  refine head_callVG rfl rfl rfl (by kernel_rfl) (vs := [_, _, _]) rfl Tryz.call34 (C_Moment_out j i k h3) (by decide) ?_
  refine yq rfl rfl rfl (.binOp rfl rfl (fun _ => run_neQ _ _ 0 0 _)) ?_
  refine head_bool (fun hc33  => (by exfalso; exact clN rfl hc33)) (fun hc33  => ?_)
  refine yp rfl (.pickF rfl rfl) (yn ?_); intro a w h
  change Code.wp _ _ _ _ _
  refine cond_false h rfl ?_
  refine gC h (zk (zs (zs (zr (zm rfl (zp (.lss rfl rfl) ?_)))))); clear h; intro a w h
  refine by_bool h (fun hc36 h => ?_) (fun hc36 h => ?_)
  · skip
    have h36 : i < 0 := of_decide_eq_true hc36
    refine gL h (zm rfl (zo 37 rfl rfl rfl (zo 37 rfl rfl rfl (zp (.pickT rfl rfl) (zm rfl (zo 41 rfl rfl rfl (zo 41 rfl rfl rfl (zp (.pickT rfl rfl) (zm rfl (zo 45 rfl rfl rfl (zo 45 rfl rfl rfl (zp (.pickT rfl rfl) (zm rfl (zo 49 rfl rfl rfl (zo 49 rfl rfl rfl (zp (.pickT rfl rfl) (zm rfl (zo 53 rfl rfl rfl (zo 53 rfl rfl rfl (zp (.pickT rfl rfl) (zn ?_))))))))))))))))))))); clear h; intro a w h
    change Code.wp _ _ _ _ _
    refine cond_true h rfl ?_
    refine gC h (zs (zr (zv [] rfl Tryz.call15 (C_works9) (za rfl (zn (zt ?_)))))); clear h; intro a w h
    refine retV h (results1 h rfl (.tmp rfl)) ?_
    rfl
  · skip
    have h36 : ¬ i < 0 := of_decide_eq_false hc36
    refine gL h (zm rfl (zq 37 rfl rfl (.move rfl) (zq 37 rfl rfl (.lss rfl rfl) ?_))); clear h; intro a w h
    refine by_bool h (fun hc39 h => ?_) (fun hc39 h => ?_)
    · skip
      have h39 : j < 0 := of_decide_eq_true hc39
      refine gL h (zp (.pickF rfl rfl) (zm rfl (zo 41 rfl rfl rfl (zo 41 rfl rfl rfl (zp (.pickT rfl rfl) (zm rfl (zo 45 rfl rfl rfl (zo 45 rfl rfl rfl (zp (.pickT rfl rfl) (zm rfl (zo 49 rfl rfl rfl (zo 49 rfl rfl rfl (zp (.pickT rfl rfl) (zm rfl (zo 53 rfl rfl rfl (zo 53 rfl rfl rfl (zp (.pickT rfl rfl) (zn ?_)))))))))))))))))); clear h; intro a w h
      change Code.wp _ _ _ _ _
      refine cond_true h rfl ?_
      refine gC h (zs (zr (zv [] rfl Tryz.call15 (C_works9) (za rfl (zn (zt ?_)))))); clear h; intro a w h
      refine retV h (results1 h rfl (.tmp rfl)) ?_
      rfl
    · skip
      have h39 : ¬ j < 0 := of_decide_eq_false hc39
      refine gL h (zp (.pickF rfl rfl) (zm rfl (zq 41 rfl rfl (.move rfl) (zq 41 rfl rfl (.lss rfl rfl) ?_)))); clear h; intro a w h
      refine by_bool h (fun hc43 h => ?_) (fun hc43 h => ?_)
      · skip
        have h43 : k < 0 := of_decide_eq_true hc43
        refine gL h (zp (.pickF rfl rfl) (zm rfl (zo 45 rfl rfl rfl (zo 45 rfl rfl rfl (zp (.pickT rfl rfl) (zm rfl (zo 49 rfl rfl rfl (zo 49 rfl rfl rfl (zp (.pickT rfl rfl) (zm rfl (zo 53 rfl rfl rfl (zo 53 rfl rfl rfl (zp (.pickT rfl rfl) (zn ?_)))))))))))))); clear h; intro a w h
        change Code.wp _ _ _ _ _
        refine cond_true h rfl ?_
        refine gC h (zs (zr (zv [] rfl Tryz.call15 (C_works9) (za rfl (zn (zt ?_)))))); clear h; intro a w h
        refine retV h (results1 h rfl (.tmp rfl)) ?_
        rfl
      · skip
        have h43 : ¬ k < 0 := of_decide_eq_false hc43
        refine gL h (zp (.pickF rfl rfl) (zm rfl (zq 45 rfl rfl (.move rfl) (zq 45 rfl rfl (.gtr rfl rfl) ?_)))); clear h; intro a w h
        refine by_bool h (fun hc47 h => ?_) (fun hc47 h => ?_)
        · skip
          have h47 : i > 47 := of_decide_eq_true hc47
          refine gL h (zp (.pickF rfl rfl) (zm rfl (zo 49 rfl rfl rfl (zo 49 rfl rfl rfl (zp (.pickT rfl rfl) (zm rfl (zo 53 rfl rfl rfl (zo 53 rfl rfl rfl (zp (.pickT rfl rfl) (zn ?_)))))))))); clear h; intro a w h
          change Code.wp _ _ _ _ _
          refine cond_true h rfl ?_
          refine gC h (zs (zr (zv [] rfl Tryz.call15 (C_works9) (za rfl (zn (zt ?_)))))); clear h; intro a w h
          refine retV h (results1 h rfl (.tmp rfl)) ?_
          rfl
        · skip
          have h47 : ¬ i > 47 := of_decide_eq_false hc47
          refine gL h (zp (.pickF rfl rfl) (zm rfl (zq 49 rfl rfl (.move rfl) (zq 49 rfl rfl (.gtr rfl rfl) ?_)))); clear h; intro a w h
          refine by_bool h (fun hc51 h => ?_) (fun hc51 h => ?_)
          · skip
            have h51 : j > 47 := of_decide_eq_true hc51
            refine gL h (zp (.pickF rfl rfl) (zm rfl (zo 53 rfl rfl rfl (zo 53 rfl rfl rfl (zp (.pickT rfl rfl) (zn ?_)))))); clear h; intro a w h
            change Code.wp _ _ _ _ _
            refine cond_true h rfl ?_
            refine gC h (zs (zr (zv [] rfl Tryz.call15 (C_works9) (za rfl (zn (zt ?_)))))); clear h; intro a w h
            refine retV h (results1 h rfl (.tmp rfl)) ?_
            rfl
          · skip
            have h51 : ¬ j > 47 := of_decide_eq_false hc51
            refine gL h (zp (.pickF rfl rfl) (zm rfl (zq 53 rfl rfl (.move rfl) (zq 53 rfl rfl (.gtr rfl rfl) ?_)))); clear h; intro a w h
            refine by_bool h (fun hc55 h => ?_) (fun hc55 h => (by exfalso; have := of_decide_eq_false hc55; omega))
            refine gL h (zp (.pickF rfl rfl) (zn ?_)); clear h; intro a w h
            change Code.wp _ _ _ _ _
            refine cond_true h rfl ?_
            refine gC h (zs (zr (zv [] rfl Tryz.call15 (C_works9) (za rfl (zn (zt ?_)))))); clear h; intro a w h
            refine retV h (results1 h rfl (.tmp rfl)) ?_
            rfl

theorem C_IM_in (i j k : Nat) (hi : i ≤ 48) (hj : j ≤ 48) (hk : k ≤ 48) : CtrW Tryz.prog 5 [.int .i64 ((i : Nat) : Int), .int .i64 ((j : Nat) : Int), .int .i64 ((k : Nat) : Int)] [TabF] (.bool true) := by
  refine fn_intro Tryz.func5 rfl Tryz.ntmps5 nb ?_
  intro S w0 a hS h
  refine gC h (zs (zr (za rfl (zn (zs (zr (zm rfl (zm rfl (zm rfl (zv [_, _, _] rfl Tryz.call34 (C_Moment _ _ _ (by omega) (by omega) (by omega)) ?_)))))))))); clear h; intro a w h
  have hl11 := lenQ_moment (i) (j) (k) (by omega) (by omega) (by omega)
  refine gL h (zz zeroQ fun b7 => zt' rfl rfl (st_5_0_5 _ _ _ _ _ _ _ _ _ _) uu Tryz.sizeOf44 rfl nb rfl ?_); clear h; intro a w h
  refine gL h (zn (zs (zs (yD mixed_YtealgpgmbflilaaGreatDoor [0, 1, 2, 3, 4, 5, 6, 7, 8, 9, 10, 11, 12, 13, 14, 15, 16, 17, 18, 19, 20, 21, 22] (floatsOK_none (by kernel_rfl)) (yd rfl rfl mr Tryz.isAgg44 Tryz.sizeOf44 (rd_5_0_5 _ _ _ _ _) ?_))))); clear h
  refine yp rfl (.move rfl) (yp rfl (.move rfl) (yp rfl (.move rfl) (yf [_, _, _] rfl rfl Tryz.call35 (C_rMoment i j k (by omega) (by omega) (by omega)) ?_))); rintro v16 Ψ16 ⟨ad16, c16, bd16, d16, rfl, hle16, hlf16, rfl⟩
  have hl16 := lenQ_moment i j k (by omega) (by omega) (by omega)
  refine yw [_, _] rfl rfl Tryz.call18 (C_SameG _ _ _ _ (momentQ i j k) (momentQ i j k) (by omega) rfl) (yp rfl (.unOp rfl (un_not _)) ?_)
  refine head_bool (fun hc18  => (by exfalso; cases hc18)) (fun hc18  => ?_)
  refine yp rfl (.move rfl) (yg rfl rfl rfl rfl mr Tryz.isAgg44 Tryz.sizeOf44 (rd_5_0_5 _ _ _ _ _) ?_)
  refine yq rfl rfl rfl (.move rfl) (yq rfl rfl rfl (.move rfl) (yq rfl rfl rfl (.move rfl) ?_))
  refine head_callVG rfl rfl rfl (by kernel_rfl) (vs := [_, _, _]) rfl Tryz.call34 (C_Moment _ _ _ (by omega) (by omega) (by omega)) (by decide) ?_
  have hl24 := lenQ_moment (j) (k) (i) (by omega) (by omega) (by omega)
  refine yq rfl rfl rfl (.binOp rfl rfl (fun _ => run_neQ _ _ (momentQ i j k) (momentQ j k i) _)) ?_
  refine head_bool (fun hc25  => (by exfalso; exact clN (mom_rot i j k) hc25)) (fun hc25  => ?_)
  refine yp rfl (.pickF rfl rfl) (yp rfl (.move rfl) (yg rfl rfl rfl rfl mr Tryz.isAgg44 Tryz.sizeOf44 (rd_5_0_5 _ _ _ _ _) ?_))
  refine yq rfl rfl rfl (.move rfl) (yq rfl rfl rfl (.move rfl) (yq rfl rfl rfl (.move rfl) ?_))
  refine head_callVG rfl rfl rfl (by kernel_rfl) (vs := [_, _, _]) rfl Tryz.call34 (C_Moment _ _ _ (by omega) (by omega) (by omega)) (by decide) ?_
  have hl32 := lenQ_moment (j) (i) (k) (by omega) (by omega) (by omega)
  refine yq rfl rfl rfl (.binOp rfl rfl (fun _ => run_neQ _ _ (momentQ i j k) (momentQ j i k) _)) ?_
  refine head_bool (fun hc33  => (by exfalso; exact clN (mom_swap i j k) hc33)) (fun hc33  => ?_)
  refine yp rfl (.pickF rfl rfl) (yn ?_); intro a w h
  change Code.wp _ _ _ _ _
  refine cond_false h rfl ?_
  refine gC h (zk (zs (zs (zr (zm rfl (zp (.lss rfl rfl) ?_)))))); clear h; intro a w h
  refine by_bool h (fun hc36 h => (by exfalso; have := of_decide_eq_true hc36; omega)) (fun hc36 h => ?_)
  refine gL h (zm rfl (zq 37 rfl rfl (.move rfl) (zq 37 rfl rfl (.lss rfl rfl) ?_))); clear h; intro a w h
  refine by_bool h (fun hc39 h => (by exfalso; have := of_decide_eq_true hc39; omega)) (fun hc39 h => ?_)
  refine gL h (zp (.pickF rfl rfl) (zm rfl (zq 41 rfl rfl (.move rfl) (zq 41 rfl rfl (.lss rfl rfl) ?_)))); clear h; intro a w h
  refine by_bool h (fun hc43 h => (by exfalso; have := of_decide_eq_true hc43; omega)) (fun hc43 h => ?_)
  refine gL h (zp (.pickF rfl rfl) (zm rfl (zq 45 rfl rfl (.move rfl) (zq 45 rfl rfl (.gtr rfl rfl) ?_)))); clear h; intro a w h
  refine by_bool h (fun hc47 h => ?_) (fun hc47 h => ?_)
  · skip
    refine gL h (zp (.pickF rfl rfl) (zm rfl (zo 49 rfl rfl rfl (zo 49 rfl rfl rfl (zp (.pickT rfl rfl) (zm rfl (zo 53 rfl rfl rfl (zo 53 rfl rfl rfl (zp (.pickT rfl rfl) (zn ?_)))))))))); clear h; intro a w h
    change Code.wp _ _ _ _ _
    refine cond_true h rfl ?_
    refine gC h (zs (zr (zv [] rfl Tryz.call15 (C_works9) (za rfl (zn (zt ?_)))))); clear h; intro a w h
    refine retV h (results1 h rfl (.tmp rfl)) ?_
    rfl
  · skip
    have h47 : i ≤ 47 := by have := of_decide_eq_false hc47; omega
    refine gL h (zp (.pickF rfl rfl) (zm rfl (zq 49 rfl rfl (.move rfl) (zq 49 rfl rfl (.gtr rfl rfl) ?_)))); clear h; intro a w h
    refine by_bool h (fun hc51 h => ?_) (fun hc51 h => ?_)
    · skip
      refine gL h (zp (.pickF rfl rfl) (zm rfl (zo 53 rfl rfl rfl (zo 53 rfl rfl rfl (zp (.pickT rfl rfl) (zn ?_)))))); clear h; intro a w h
      change Code.wp _ _ _ _ _
      refine cond_true h rfl ?_
      refine gC h (zs (zr (zv [] rfl Tryz.call15 (C_works9) (za rfl (zn (zt ?_)))))); clear h; intro a w h
      refine retV h (results1 h rfl (.tmp rfl)) ?_
      rfl
    · skip
      have h51 : j ≤ 47 := by have := of_decide_eq_false hc51; omega
      refine gL h (zp (.pickF rfl rfl) (zm rfl (zq 53 rfl rfl (.move rfl) (zq 53 rfl rfl (.gtr rfl rfl) ?_)))); clear h; intro a w h
      refine by_bool h (fun hc55 h => ?_) (fun hc55 h => ?_)
      · skip
        refine gL h (zp (.pickF rfl rfl) (zn ?_)); clear h; intro a w h
        change Code.wp _ _ _ _ _
        refine cond_true h rfl ?_
        refine gC h (zs (zr (zv [] rfl Tryz.call15 (C_works9) (za rfl (zn (zt ?_)))))); clear h; intro a w h
        refine retV h (results1 h rfl (.tmp rfl)) ?_
        rfl
      · skip
        have h55 : k ≤ 47 := by have := of_decide_eq_false hc55; omega
        refine gL h (zp (.pickF rfl rfl) (zn ?_)); clear h; intro a w h
        change Code.wp _ _ _ _ _
        refine cond_false h rfl ?_
        refine gC h (zk (zs (yD mixed_YtealgpgmbflilaaGreatDoor [0, 1, 2, 3, 5, 6, 7, 8, 10, 11, 12, 13, 17, 4, 9, 14, 15, 16, 18, 19, 20, 21, 22] (floatsOK_none (by kernel_rfl)) (yp rfl (.move rfl) (yp rfl (Pure1.cast (v' := (.int .i64 ((i + 1 : Nat) : Int))) (.add rfl rfl) (by show Value.int _ _ = Value.int _ _; congr 1)) (yp rfl (.move rfl) (yp rfl (.move rfl) (yp rfl (.move rfl) (yp rfl (.move rfl) (yp rfl (Pure1.cast (v' := (.int .i64 ((j + 1 : Nat) : Int))) (.add rfl rfl) (by show Value.int _ _ = Value.int _ _; congr 1)) (yp rfl (.move rfl) (yp rfl (.move rfl) (yp rfl (.move rfl) (yp rfl (.move rfl) (yp rfl (Pure1.cast (v' := (.int .i64 ((k + 1 : Nat) : Int))) (.add rfl rfl) (by show Value.int _ _ = Value.int _ _; congr 1)) (yd rfl rfl mr Tryz.isAgg44 Tryz.sizeOf44 (rd_5_0_5 _ _ _ _ _) ?_)))))))))))))))); clear h
        refine yv [_, _, _] rfl rfl Tryz.call34 (C_Moment _ _ _ (by omega) (by omega) (by omega)) ?_
        have hl62 := lenQ_moment (i + 1) (j) (k) (by omega) (by omega) (by omega)
        refine yv [_, _, _] rfl rfl Tryz.call34 (C_Moment _ _ _ (by omega) (by omega) (by omega)) ?_
        have hl67 := lenQ_moment (i) (j + 1) (k) (by omega) (by omega) (by omega)
        refine yv [_, _, _] rfl rfl Tryz.call34 (C_Moment _ _ _ (by omega) (by omega) (by omega)) ?_
        have hl72 := lenQ_moment (i) (j) (k + 1) (by omega) (by omega) (by omega)
        refine head_buildRow hS rfl (by kernel_rfl) [(_, _), (_, _), (_, _)] rfl (bs_146_3_0_1_2 _ _ _ _ _ _ _ _ _ _ _ _ _ _ _) (cellsOf encQ [momentQ (i + 1) j k, momentQ i (j + 1) k, momentQ i j (k + 1)]) rfl (by decide) ?_; intro b73
        refine yw [_] rfl rfl Tryz.call36 (C_QSum _ _ [momentQ (i + 1) j k, momentQ i (j + 1) k, momentQ i j (k + 1)] (by simp) (three_K (by omega) (by omega) (by omega))) (yp rfl (.binOp rfl rfl (fun _ => run_eqQ _ _ ([momentQ (i + 1) j k, momentQ i (j + 1) k, momentQ i j (k + 1)].foldl (· + ·) 0) (momentQ i j k) _)) ?_)
        refine head_bool (fun hc76  => ?_) (fun hc76  => (by exfalso; exact clE (mom_sum i j k) hc76))
        refine yp rfl (.move rfl) ?_
        refine head_callVG rfl rfl rfl (by kernel_rfl) (vs := []) rfl Tryz.call15 (C_works9) (by decide) ?_
        refine yp rfl (.pickT rfl rfl) (yp rfl (.assign rfl) (yn (zt ?_))); intro a w h
        refine retV h (results1 h rfl (.tmp rfl)) ?_
        rfl

theorem C_IntegralsMoments (i j k : Int) : CtrW Tryz.prog 5 [.int .i64 i, .int .i64 j, .int .i64 k] [TabF] (.bool true) := by
  by_cases h : 0 ≤ i ∧ i ≤ 48 ∧ 0 ≤ j ∧ j ≤ 48 ∧ 0 ≤ k ∧ k ≤ 48
  · obtain ⟨a, rfl⟩ : ∃ a : Nat, i = (a : Int) := ⟨i.toNat, by omega⟩
    obtain ⟨b, rfl⟩ : ∃ b : Nat, j = (b : Int) := ⟨j.toNat, by omega⟩
    obtain ⟨c, rfl⟩ : ∃ c : Nat, k = (c : Int) := ⟨k.toNat, by omega⟩
    exact C_IM_in a b c (by omega) (by omega) (by omega)
  · exact C_IM_out i j k h
end Go.Proofs.YtealgpgmbflilaaGreatDoor
