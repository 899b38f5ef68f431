/- Written by a program of ours (gen.py) out of short specifications. By an AI agent. -/
import Derived.Test.YtealgpgmbflilaaGreatDoorLaw09c
set_option linter.unusedVariables false
set_option linter.unusedSimpArgs false
set_option maxRecDepth 4000
namespace Go.Proofs.YtealgpgmbflilaaGreatDoor
open Go Go.Proofs Go.Fx
attribute [local irreducible] Oper.wp Code.wp wpList Fx.Head wpOp

theorem ways_ftc (p : List Tm) (u v : Pt) : segQ (norm (norm (scaleL (v.1 - u.1) (norm (dxL p))) ++ norm (scaleL (v.2 - u.2) (norm (dyL p))))) u v = evP p v.1 v.2 - evP p u.1 u.2 := by
  rw [scale_nrm, scale_nrm, add_nrm, nrm_seg, seg_ftc]
theorem ways_cut (p : List Tm) (u v : Pt) (s : Rat) : s * segQ p u (u.1 + s * (v.1 - u.1), u.2 + s * (v.2 - u.2)) + (((1 : Int) : Rat) - s) * segQ p (u.1 + s * (v.1 - u.1), u.2 + s * (v.2 - u.2)) v = segQ p u v :=
  seg_cut p u v s _ rfl rfl
theorem ways_flow (p q : List Tm) (u v : Pt) (s : Rat) : flowQ p q u v = flowQ p q u (u.1 + s * (v.1 - u.1), u.2 + s * (v.2 - u.2)) + flowQ p q (u.1 + s * (v.1 - u.1), u.2 + s * (v.2 - u.2)) v :=
  flow_cut p q u _ v (by unfold twQ; grind)

theorem C_IntegralsWays (l m : List Ti) (ad ad2 : Option Addr) (c c2 : Nat) (hokl : ∀ t ∈ l, OkT t) (hokm : ∀ t ∈ m, OkT t) (hln : l.length ≤ 9223372036854775807) (hmn : m.length ≤ 9223372036854775807) (qa : (Int × Int) × (Int × Int)) (qb : (Int × Int) × (Int × Int)) (hqa : OkP qa) (hqb : OkP qb) (qt : Int × Int) (hqt : OkQ qt) : CtrW Tryz.prog 10 [.slice ad l.length c, .slice ad2 m.length c2, encPQ qa, encPQ qb, encQ2 qt] [Row ad (cellsOf encTi l), Row ad2 (cellsOf encTi m)] (.bool true) := by
  have hKa := ptv_K hqa
  have hKb := ptv_K hqb
  obtain ⟨ha1, ha2⟩ := hKa
  obtain ⟨hb1, hb2⟩ := hKb
  have hKa : PtK 4 (ptv qa) := ⟨ha1, ha2⟩
  have hKb : PtK 4 (ptv qb) := ⟨hb1, hb2⟩
  have hKa8 : PtK 18 (ptv qa) := hKa.mono (by decide)
  have hKb8 : PtK 18 (ptv qb) := hKb.mono (by decide)
  have hls : lenQ (qv qt.1 qt.2) ≤ 4 := lenQ_qvp hqt
  have hKz := cut_K (s := qv qt.1 qt.2) hKa hKb hls
  obtain ⟨ht1, ht2, ht3, ht4⟩ := hqt
  refine fn_intro Tryz.func10 rfl Tryz.ntmps10 nb ?_
  intro S w0 a hS h
  refine gC h (zs (zr (zx rfl fun b7 => zx rfl fun b8 => zx rfl fun b9 => za rfl (zn (zs (zs (zr (zm rfl (zp (.builtin [_] rfl (len_slice_22 _ _ _)) (zp (.gtr rfl rfl) ?_)))))))))); clear h; intro a w h
  refine by_bool h (fun hc25 h => ?_) (fun hc25 h => ?_)
  · skip
    refine gL h (zm rfl (zo 26 rfl rfl rfl (zo 26 rfl rfl rfl (zo 26 rfl rfl rfl (zp (.pickT rfl rfl) (zn ?_)))))); clear h; intro a w h
    change Code.wp _ _ _ _ _
    refine cond_true h rfl ?_
    refine gC h (zs (zr (zv [] rfl Tryz.call15 (C_works9) (za rfl (zn (zt ?_)))))); clear h; intro a w h
    refine retV h (results1 h rfl (.tmp rfl)) ?_
    rfl
  · skip
    refine gL h (zm rfl (zq 26 rfl rfl (.move rfl) (zq 26 rfl rfl (.builtin [_] rfl (len_slice_22 _ _ _)) (zq 26 rfl rfl (.gtr rfl rfl) ?_)))); clear h; intro a w h
    refine by_bool h (fun hc29 h => ?_) (fun hc29 h => ?_)
    · skip
      refine gL h (zp (.pickF rfl rfl) (zn ?_)); clear h; intro a w h
      change Code.wp _ _ _ _ _
      refine cond_true h rfl ?_
      refine gC h (zs (zr (zv [] rfl Tryz.call15 (C_works9) (za rfl (zn (zt ?_)))))); clear h; intro a w h
      refine retV h (results1 h rfl (.tmp rfl)) ?_
      rfl
    · skip
      have hll : l.length ≤ 8 := by have := of_decide_eq_false hc25; omega
      have hml : m.length ≤ 8 := by have := of_decide_eq_false hc29; omega
      have hgx := made_Pq (d := 6) hokl hll (by decide) (by decide)
      have hgy := made_Pq (d := 6) hokm hml (by decide) (by decide)
      refine gL h (zp (.pickF rfl rfl) (zn ?_)); clear h; intro a w h
      change Code.wp _ _ _ _ _
      refine cond_false h rfl ?_
      refine gC h (zk (zs (zr (zm rfl (zf [_, _] rfl Tryz.call26 (C_Made l _ _ 6 8 (by assumption) (by omega) (by omega)) ?_))))); clear h; rintro v33 Ψ33 ⟨ad33, c33, rfl, rfl⟩ a w h
      refine gL h (zm rfl (zf [_, _] rfl Tryz.call26 (C_Made m _ _ 6 8 (by assumption) (by omega) (by omega)) ?_)); clear h; rintro v35 Ψ35 ⟨ad35, c35, rfl, rfl⟩ a w h
      obtain ⟨G, hnG⟩ : ∃ G, norm (madeL 6 l) = G := ⟨_, rfl⟩
      rw [hnG] at h hgx
      obtain ⟨H, hnH⟩ : ∃ G, norm (madeL 6 m) = G := ⟨_, rfl⟩
      rw [hnH] at h hgy
      have hs0 : lenQ (segQ G (ptv qa) (((ptv qa).1 + qv qt.1 qt.2 * ((ptv qb).1 - (ptv qa).1), (ptv qa).2 + qv qt.1 qt.2 * ((ptv qb).2 - (ptv qa).2)))) ≤ 2000000 := Nat.le_trans (lenQ_seg hgx (by decide) hKa8 hKz (by decide)) (by decide +kernel)
      have hs1 : lenQ (segQ G (((ptv qa).1 + qv qt.1 qt.2 * ((ptv qb).1 - (ptv qa).1), (ptv qa).2 + qv qt.1 qt.2 * ((ptv qb).2 - (ptv qa).2))) (ptv qb)) ≤ 2000000 := Nat.le_trans (lenQ_seg hgx (by decide) hKz hKb8 (by decide)) (by decide +kernel)
      have hf0 : lenQ (flowQ G H (ptv qa) (((ptv qa).1 + qv qt.1 qt.2 * ((ptv qb).1 - (ptv qa).1), (ptv qa).2 + qv qt.1 qt.2 * ((ptv qb).2 - (ptv qa).2)))) ≤ 2000000 := lenQ_flow hgx hgy (by decide) (by decide) hKa8 hKz (by decide) (by decide +kernel)
      have hf1 : lenQ (flowQ G H (((ptv qa).1 + qv qt.1 qt.2 * ((ptv qb).1 - (ptv qa).1), (ptv qa).2 + qv qt.1 qt.2 * ((ptv qb).2 - (ptv qa).2))) (ptv qb)) ≤ 2000000 := lenQ_flow hgx hgy (by decide) (by decide) hKz hKb8 (by decide) (by decide +kernel)
      have hf2 : lenQ (flowQ G H (ptv qa) (ptv qb)) ≤ 2000000 := lenQ_flow hgx hgy (by decide) (by decide) hKa8 hKb8 (by decide) (by decide +kernel)
      have he1 : lenQ (evP G (ptv qb).1 (ptv qb).2) ≤ 1000000 := Nat.le_trans (lenQ_ev hgx (by decide) hb1 hb2) (by decide)
      have he2 : lenQ (evP G (ptv qa).1 (ptv qa).2) ≤ 1000000 := Nat.le_trans (lenQ_ev hgx (by decide) ha1 ha2) (by decide)
      refine gL h (za rfl (za rfl (zn (zs (yD mixed_YtealgpgmbflilaaGreatDoor [0, 2, 4, 1, 3, 5, 6, 7, 8, 9, 10, 11] (floatsOK_of ⟨.inl rfl, .inl rfl, .inl rfl, .inl rfl, .inl rfl, .inl rfl, .inr ⟨13, 49, _, _, _, rfl, rfl, by decide, _, zeroPt⟩, .inr ⟨14, 49, _, _, _, rfl, rfl, by decide, _, zeroPt⟩, .inr ⟨15, 44, _, _, _, rfl, rfl, by decide, _, zeroQ⟩, .inl rfl, .inl rfl, .inl rfl, trivial⟩) (yd rfl rfl mr Tryz.isAgg27 Tryz.sizeOf27 (rd_4_0_4 _ _ _ _) ?_)))))); clear h
      refine yd rfl rfl mr Tryz.isAgg27 Tryz.sizeOf27 (rd_4_0_4 _ _ _ _) ?_
      refine yd rfl rfl mr Tryz.isAgg25 Tryz.sizeOf25 (rd_2_0_2 _ _) ?_
      refine yv [_] rfl rfl Tryz.call21 (C_POf qa (by assumption)) (yv [_] rfl rfl Tryz.call21 (C_POf qb (by assumption)) (yv [_] rfl rfl Tryz.call28 (C_qOf qt.1 qt.2 (by omega) (by omega) (by omega) (by omega)) ?_))
      have hl41 := lenQ_qv qt.1 qt.2 (by omega) (by omega) (by omega) (by omega)
      refine yz rfl zeroPt fun b13 => yz rfl zeroPt fun b14 => yz rfl zeroQ fun b15 => yt rfl rfl rfl (st_10_0_10 _ _ _ _ _ _ _ _ _ _ _ _ _ _ _ _ _ _ _ _) uu Tryz.sizeOf49 rfl nb rfl ?_
      refine yt rfl rfl rfl (st_10_0_10 _ _ _ _ _ _ _ _ _ _ _ _ _ _ _ _ _ _ _ _) uu Tryz.sizeOf49 rfl nb rfl ?_
      refine yt rfl rfl rfl (st_5_0_5 _ _ _ _ _ _ _ _ _ _) uu Tryz.sizeOf44 rfl nb rfl ?_
      refine yn (zs (yD mixed_YtealgpgmbflilaaGreatDoor [0, 1, 2, 3, 5, 6, 7, 8, 4, 9, 10, 11, 12, 13] (floatsOK_of ⟨.inl rfl, .inl rfl, .inl rfl, .inl rfl, .inl rfl, .inl rfl, .inl rfl, .inl rfl, .inl rfl, .inl rfl, .inr ⟨16, 44, _, _, _, rfl, rfl, by decide, _, zeroQ⟩, .inr ⟨17, 44, _, _, _, rfl, rfl, by decide, _, zeroQ⟩, .inl rfl, .inl rfl, trivial⟩) (yp rfl (.indexAddr rfl rfl (ixc_49_0 _ _)) (yd rfl rfl mr Tryz.isAgg44 Tryz.sizeOf44 (rd_10_0_5 _ _ _ _ _ _ _ _ _ _) ?_))))
      refine yp rfl (.indexAddr rfl rfl (ixc_49_0 _ _)) (yd rfl rfl mr Tryz.isAgg44 Tryz.sizeOf44 (rd_10_0_5 _ _ _ _ _ _ _ _ _ _) ?_)
      refine yp rfl (.indexAddr rfl rfl (ixc_49_1 _ _)) (yd rfl rfl mr Tryz.isAgg44 Tryz.sizeOf44 (rd_10_5_5 _ _ _ _ _ _ _ _ _ _) ?_)
      refine yp rfl (.indexAddr rfl rfl (ixc_49_1 _ _)) (yd rfl rfl mr Tryz.isAgg44 Tryz.sizeOf44 (rd_10_5_5 _ _ _ _ _ _ _ _ _ _) ?_)
      refine yv [_, _] rfl rfl Tryz.call31 (C_QSub _ _ (by omega) (by omega)) ?_
      have hl46 := lenQ_sub ((ptv qb).1) ((ptv qa).1)
      refine yv [_, _] rfl rfl Tryz.call31 (C_QSub _ _ (by omega) (by omega)) ?_
      have hl51 := lenQ_sub ((ptv qb).2) ((ptv qa).2)
      refine yz rfl zeroQ fun b16 => yz rfl zeroQ fun b17 => yt rfl rfl rfl (st_5_0_5 _ _ _ _ _ _ _ _ _ _) uu Tryz.sizeOf44 rfl nb rfl ?_
      refine yt rfl rfl rfl (st_5_0_5 _ _ _ _ _ _ _ _ _ _) uu Tryz.sizeOf44 rfl nb rfl ?_
      refine yn (zs (yD mixed_YtealgpgmbflilaaGreatDoor [0, 2, 4, 6, 1, 3, 5, 7, 8, 9] (floatsOK_none (by kernel_rfl)) (yp rfl (.move rfl) (yd rfl rfl mr Tryz.isAgg44 Tryz.sizeOf44 (rd_5_0_5 _ _ _ _ _) ?_))))
      refine yp rfl (.move rfl) (yd rfl rfl mr Tryz.isAgg44 Tryz.sizeOf44 (rd_5_0_5 _ _ _ _ _) ?_)
      refine yf [_] rfl rfl Tryz.call33 (C_DxF G _ _ 6 41 hgx (by decide) (by decide)) ?_; rintro v53 Ψ53 ⟨ad53, c53, rfl, rfl⟩
      refine yf [_, _] rfl rfl Tryz.call53 (C_ScaleF (norm (dxL G)) _ _ 6 42 (hgx.dx (by decide)) (by decide) (by decide) ((ptv qb).1 - (ptv qa).1) 9 (by omega) (by decide)) ?_; rintro v55 Ψ55 ⟨ad55, c55, rfl, rfl⟩
      refine yf [_] rfl rfl Tryz.call39 (C_DyF G _ _ 6 41 hgx (by decide) (by decide)) ?_; rintro v57 Ψ57 ⟨ad57, c57, rfl, rfl⟩
      refine yf [_, _] rfl rfl Tryz.call53 (C_ScaleF (norm (dyL G)) _ _ 6 42 (hgx.dy (by decide)) (by decide) (by decide) ((ptv qb).2 - (ptv qa).2) 9 (by omega) (by decide)) ?_; rintro v59 Ψ59 ⟨ad59, c59, rfl, rfl⟩
      refine yf [_, _] rfl rfl Tryz.call41 (C_pAddF (norm (scaleL ((ptv qb).1 - (ptv qa).1) (norm (dxL G)))) (norm (scaleL ((ptv qb).2 - (ptv qa).2) (norm (dyL G)))) _ _ _ _ 6 6 52 52 ((hgx.dx (by decide)).scale (c := (ptv qb).1 - (ptv qa).1) (Kc := 9) (by omega) (by decide)) ((hgx.dy (by decide)).scale (c := (ptv qb).2 - (ptv qa).2) (Kc := 9) (by omega) (by decide)) (by decide) (by decide) (by decide) (by decide)) ?_; rintro v60 Ψ60 ⟨ad60, c60, rfl, rfl⟩
      refine yp rfl (.assign rfl) (yn (zs (zr (zm rfl (zd rfl mr Tryz.isAgg49 Tryz.sizeOf49 (rd_10_0_10 _ _ _ _ _ _ _ _ _ _) ?_))))); intro a w h
      refine gL h (zd rfl mr Tryz.isAgg49 Tryz.sizeOf49 (rd_10_0_10 _ _ _ _ _ _ _ _ _ _) ?_); clear h; intro a w h
      refine gL h (zw [_, _, _] rfl Tryz.call19 (C_Seg G _ _ 6 41 4 hgx (by decide) (ptv qa) (ptv qb) hKa hKb (by decide) (by decide) (by decide)) (zz zeroQ fun b19 => zt' rfl rfl (st_5_0_5 _ _ _ _ _ _ _ _ _ _) uu Tryz.sizeOf44 rfl nb rfl ?_)); clear h; intro a w h
      refine gL h (zn (zs (yD mixed_YtealgpgmbflilaaGreatDoor [0, 1, 2, 3, 6, 7, 8, 9, 4, 5, 10, 11, 12, 13, 14] (floatsOK_of ⟨.inl rfl, .inl rfl, .inl rfl, .inl rfl, .inl rfl, .inl rfl, .inl rfl, .inl rfl, .inl rfl, .inl rfl, .inl rfl, .inl rfl, .inl rfl, .inr ⟨20, 49, _, _, _, rfl, rfl, by decide, _, zeroPt⟩, .inl rfl, trivial⟩) (yp rfl (.indexAddr rfl rfl (ixc_49_0 _ _)) (yd rfl rfl mr Tryz.isAgg44 Tryz.sizeOf44 (rd_10_0_5 _ _ _ _ _ _ _ _ _ _) ?_))))); clear h
      refine yd rfl rfl mr Tryz.isAgg44 Tryz.sizeOf44 (rd_5_0_5 _ _ _ _ _) ?_
      refine yd rfl rfl mr Tryz.isAgg44 Tryz.sizeOf44 (rd_5_0_5 _ _ _ _ _) ?_
      refine yp rfl (.indexAddr rfl rfl (ixc_49_1 _ _)) (yd rfl rfl mr Tryz.isAgg44 Tryz.sizeOf44 (rd_10_5_5 _ _ _ _ _ _ _ _ _ _) ?_)
      refine yd rfl rfl mr Tryz.isAgg44 Tryz.sizeOf44 (rd_5_0_5 _ _ _ _ _) ?_
      refine yd rfl rfl mr Tryz.isAgg44 Tryz.sizeOf44 (rd_5_0_5 _ _ _ _ _) ?_
      refine yv [_, _] rfl rfl Tryz.call30 (C_QMul _ _ (by omega) (by omega)) ?_
      have hl69 := lenQ_mul (qv qt.1 qt.2) (((ptv qb).1) - ((ptv qa).1))
      refine yv [_, _] rfl rfl Tryz.call29 (C_QAdd _ _ (by omega) (by omega)) ?_
      have hl70 := lenQ_add ((ptv qa).1) ((qv qt.1 qt.2) * (((ptv qb).1) - ((ptv qa).1)))
      refine yv [_, _] rfl rfl Tryz.call30 (C_QMul _ _ (by omega) (by omega)) ?_
      have hl75 := lenQ_mul (qv qt.1 qt.2) (((ptv qb).2) - ((ptv qa).2))
      refine yv [_, _] rfl rfl Tryz.call29 (C_QAdd _ _ (by omega) (by omega)) ?_
      have hl76 := lenQ_add ((ptv qa).2) ((qv qt.1 qt.2) * (((ptv qb).2) - ((ptv qa).2)))
      refine yp rfl (.build [(_, _), (_, _)] rfl (bd_49_0_1 _ _ _ _ _ _ _ _ _ _)) (yz rfl zeroPt fun b20 => yt rfl rfl rfl (st_10_0_10 _ _ _ _ _ _ _ _ _ _ _ _ _ _ _ _ _ _ _ _) uu Tryz.sizeOf49 rfl nb rfl ?_)
      refine yn (zs (yD mixed_YtealgpgmbflilaaGreatDoor [0, 1, 2, 3, 7, 9, 10, 11, 4, 5, 6, 8, 12, 13, 14, 15, 16] (floatsOK_of ⟨.inl rfl, .inl rfl, .inl rfl, .inl rfl, .inl rfl, .inl rfl, .inl rfl, .inl rfl, .inl rfl, .inl rfl, .inl rfl, .inl rfl, .inl rfl, .inl rfl, .inl rfl, .inr ⟨21, 44, _, _, _, rfl, rfl, by decide, _, zeroQ⟩, .inl rfl, trivial⟩) (yd rfl rfl mr Tryz.isAgg44 Tryz.sizeOf44 (rd_5_0_5 _ _ _ _ _) ?_)))
      refine yp rfl (.move rfl) (yd rfl rfl mr Tryz.isAgg49 Tryz.sizeOf49 (rd_10_0_10 _ _ _ _ _ _ _ _ _ _) ?_)
      refine yd rfl rfl mr Tryz.isAgg49 Tryz.sizeOf49 (rd_10_0_10 _ _ _ _ _ _ _ _ _ _) ?_
      refine yd rfl rfl mr Tryz.isAgg44 Tryz.sizeOf44 (rd_5_0_5 _ _ _ _ _) ?_
      refine yp rfl (.move rfl) (yd rfl rfl mr Tryz.isAgg49 Tryz.sizeOf49 (rd_10_0_10 _ _ _ _ _ _ _ _ _ _) ?_)
      refine yd rfl rfl mr Tryz.isAgg49 Tryz.sizeOf49 (rd_10_0_10 _ _ _ _ _ _ _ _ _ _) ?_
      refine yw [_, _, _] rfl rfl Tryz.call19 (C_Seg G _ _ 6 41 18 hgx (by decide) (ptv qa) (((ptv qa).1 + qv qt.1 qt.2 * ((ptv qb).1 - (ptv qa).1), (ptv qa).2 + qv qt.1 qt.2 * ((ptv qb).2 - (ptv qa).2))) hKa8 hKz (by decide) (by decide) (by decide)) (yv [_, _] rfl rfl Tryz.call30 (C_QMul _ _ (by omega) (by omega)) ?_)
      have hl83 := lenQ_mul (qv qt.1 qt.2) (segQ G (ptv qa) (((ptv qa).1 + qv qt.1 qt.2 * ((ptv qb).1 - (ptv qa).1), (ptv qa).2 + qv qt.1 qt.2 * ((ptv qb).2 - (ptv qa).2))))
      refine yv [_] rfl rfl Tryz.call44 (C_QInt _ (by omega) (by omega)) ?_
      have hl84 := lenQ_int (1) (by omega) (by omega)
      refine yv [_, _] rfl rfl Tryz.call31 (C_QSub _ _ (by omega) (by omega)) ?_
      have hl86 := lenQ_sub (((1 : Int) : Rat)) (qv qt.1 qt.2)
      refine yw [_, _, _] rfl rfl Tryz.call19 (C_Seg G _ _ 6 41 18 hgx (by decide) (((ptv qa).1 + qv qt.1 qt.2 * ((ptv qb).1 - (ptv qa).1), (ptv qa).2 + qv qt.1 qt.2 * ((ptv qb).2 - (ptv qa).2))) (ptv qb) hKz hKb8 (by decide) (by decide) (by decide)) (yv [_, _] rfl rfl Tryz.call30 (C_QMul _ _ (by omega) (by omega)) ?_)
      have hl91 := lenQ_mul ((((1 : Int) : Rat)) - (qv qt.1 qt.2)) (segQ G (((ptv qa).1 + qv qt.1 qt.2 * ((ptv qb).1 - (ptv qa).1), (ptv qa).2 + qv qt.1 qt.2 * ((ptv qb).2 - (ptv qa).2))) (ptv qb))
      refine yv [_, _] rfl rfl Tryz.call29 (C_QAdd _ _ (by omega) (by omega)) ?_
      have hl92 := lenQ_add ((qv qt.1 qt.2) * (segQ G (ptv qa) (((ptv qa).1 + qv qt.1 qt.2 * ((ptv qb).1 - (ptv qa).1), (ptv qa).2 + qv qt.1 qt.2 * ((ptv qb).2 - (ptv qa).2))))) (((((1 : Int) : Rat)) - (qv qt.1 qt.2)) * (segQ G (((ptv qa).1 + qv qt.1 qt.2 * ((ptv qb).1 - (ptv qa).1), (ptv qa).2 + qv qt.1 qt.2 * ((ptv qb).2 - (ptv qa).2))) (ptv qb)))
      refine yz rfl zeroQ fun b21 => yt rfl rfl rfl (st_5_0_5 _ _ _ _ _ _ _ _ _ _) uu Tryz.sizeOf44 rfl nb rfl ?_
      refine yn (zs (zs (yD mixed_YtealgpgmbflilaaGreatDoor [0, 1, 2, 4, 5, 6, 7, 8, 10, 11, 12, 13, 14, 3, 9, 15, 16, 17, 18, 19, 20, 21, 22, 23, 24, 25, 26, 28, 27, 29, 30, 31, 32, 33, 34, 36, 37, 38, 39, 40, 35, 41, 42, 43] (floatsOK_none (by kernel_rfl)) (yp rfl (.move rfl) (yd rfl rfl mr Tryz.isAgg49 Tryz.sizeOf49 (rd_10_0_10 _ _ _ _ _ _ _ _ _ _) ?_)))))
      refine yd rfl rfl mr Tryz.isAgg49 Tryz.sizeOf49 (rd_10_0_10 _ _ _ _ _ _ _ _ _ _) ?_
      refine yp rfl (.move rfl) (yp rfl (.indexAddr rfl rfl (ixc_49_0 _ _)) (yd rfl rfl mr Tryz.isAgg44 Tryz.sizeOf44 (rd_10_0_5 _ _ _ _ _ _ _ _ _ _) ?_))
      refine yp rfl (.indexAddr rfl rfl (ixc_49_1 _ _)) (yd rfl rfl mr Tryz.isAgg44 Tryz.sizeOf44 (rd_10_5_5 _ _ _ _ _ _ _ _ _ _) ?_)
      refine yp rfl (.move rfl) (yp rfl (.indexAddr rfl rfl (ixc_49_0 _ _)) (yd rfl rfl mr Tryz.isAgg44 Tryz.sizeOf44 (rd_10_0_5 _ _ _ _ _ _ _ _ _ _) ?_))
      refine yp rfl (.indexAddr rfl rfl (ixc_49_1 _ _)) (yd rfl rfl mr Tryz.isAgg44 Tryz.sizeOf44 (rd_10_5_5 _ _ _ _ _ _ _ _ _ _) ?_)
      refine yw [_, _, _] rfl rfl Tryz.call19 (C_Seg (norm (norm (scaleL ((ptv qb).1 - (ptv qa).1) (norm (dxL G))) ++ norm (scaleL ((ptv qb).2 - (ptv qa).2) (norm (dyL G))))) _ _ 6 106 4 (((hgx.dx (by decide)).scale (c := (ptv qb).1 - (ptv qa).1) (Kc := 9) (by omega) (by decide)).add ((hgx.dy (by decide)).scale (c := (ptv qb).2 - (ptv qa).2) (Kc := 9) (by omega) (by decide)) (by decide) (by decide)) (by decide) (ptv qa) (ptv qb) hKa hKb (by decide) (by decide) (by decide)) (yw [_, _, _] rfl rfl Tryz.call51 (C_At G _ _ 6 41 4 hgx (by decide) (ptv qb).1 (ptv qb).2 (by omega) (by omega) (by decide) (by decide)) (yw [_, _, _] rfl rfl Tryz.call51 (C_At G _ _ 6 41 4 hgx (by decide) (ptv qa).1 (ptv qa).2 (by omega) (by omega) (by decide) (by decide)) (yv [_, _] rfl rfl Tryz.call31 (C_QSub _ _ (by omega) (by omega)) ?_)))
      have hl109 := lenQ_sub (evP G (ptv qb).1 (ptv qb).2) (evP G (ptv qa).1 (ptv qa).2)
      refine yp rfl (.binOp rfl rfl (fun _ => run_neQ _ _ (segQ (norm (norm (scaleL ((ptv qb).1 - (ptv qa).1) (norm (dxL G))) ++ norm (scaleL ((ptv qb).2 - (ptv qa).2) (norm (dyL G))))) (ptv qa) (ptv qb)) ((evP G (ptv qb).1 (ptv qb).2) - (evP G (ptv qa).1 (ptv qa).2)) _)) ?_
      refine head_bool (fun hc110  => (by exfalso; exact clN (ways_ftc G (ptv qa) (ptv qb)) hc110)) (fun hc110  => ?_)
      refine yp rfl (.move rfl) (yg rfl rfl rfl rfl mr Tryz.isAgg44 Tryz.sizeOf44 (rd_5_0_5 _ _ _ _ _) ?_)
      refine yg rfl rfl rfl rfl mr Tryz.isAgg44 Tryz.sizeOf44 (rd_5_0_5 _ _ _ _ _) ?_
      refine yq rfl rfl rfl (.binOp rfl rfl (fun _ => run_neQ _ _ (((qv qt.1 qt.2) * (segQ G (ptv qa) (((ptv qa).1 + qv qt.1 qt.2 * ((ptv qb).1 - (ptv qa).1), (ptv qa).2 + qv qt.1 qt.2 * ((ptv qb).2 - (ptv qa).2))))) + (((((1 : Int) : Rat)) - (qv qt.1 qt.2)) * (segQ G (((ptv qa).1 + qv qt.1 qt.2 * ((ptv qb).1 - (ptv qa).1), (ptv qa).2 + qv qt.1 qt.2 * ((ptv qb).2 - (ptv qa).2))) (ptv qb)))) (segQ G (ptv qa) (ptv qb)) _)) ?_
      refine head_bool (fun hc114  => (by exfalso; exact clN (ways_cut G (ptv qa) (ptv qb) (qv qt.1 qt.2)) hc114)) (fun hc114  => ?_)
      refine yp rfl (.pickF rfl rfl) (yp rfl (.move rfl) (yq rfl rfl rfl (.move rfl) (yg rfl rfl rfl rfl mr Tryz.isAgg49 Tryz.sizeOf49 (rd_10_0_10 _ _ _ _ _ _ _ _ _ _) ?_)))
      refine yg rfl rfl rfl rfl mr Tryz.isAgg49 Tryz.sizeOf49 (rd_10_0_10 _ _ _ _ _ _ _ _ _ _) ?_
      refine yg rfl rfl rfl rfl mr Tryz.isAgg44 Tryz.sizeOf44 (rd_5_0_5 _ _ _ _ _) ?_
      refine head_callWG rfl rfl rfl (by kernel_rfl) (vs := [_, _, _]) rfl Tryz.call19 (C_Seg G _ _ 6 41 4 hgx (by decide) (ptv qb) (ptv qa) hKb hKa (by decide) (by decide) (by decide)) (by simp) (by decide) ?_
      refine yq rfl rfl rfl (.binOp rfl rfl (fun _ => run_neQ _ _ (segQ G (ptv qb) (ptv qa)) (segQ G (ptv qa) (ptv qb)) _)) ?_
      refine head_bool (fun hc122  => (by exfalso; exact clN (segQ_symm G (ptv qb) (ptv qa)) hc122)) (fun hc122  => ?_)
      refine yp rfl (.pickF rfl rfl) (yp rfl (.move rfl) (yq rfl rfl rfl (.move rfl) (yg rfl rfl rfl rfl mr Tryz.isAgg49 Tryz.sizeOf49 (rd_10_0_10 _ _ _ _ _ _ _ _ _ _) ?_)))
      refine yg rfl rfl rfl rfl mr Tryz.isAgg49 Tryz.sizeOf49 (rd_10_0_10 _ _ _ _ _ _ _ _ _ _) ?_
      refine yq rfl rfl rfl (.move rfl) (yq rfl rfl rfl (.indexAddr rfl rfl (ixc_49_0 _ _)) (yg rfl rfl rfl rfl mr Tryz.isAgg44 Tryz.sizeOf44 (rd_10_0_5 _ _ _ _ _ _ _ _ _ _) ?_))
      refine yq rfl rfl rfl (.indexAddr rfl rfl (ixc_49_1 _ _)) (yg rfl rfl rfl rfl mr Tryz.isAgg44 Tryz.sizeOf44 (rd_10_5_5 _ _ _ _ _ _ _ _ _ _) ?_)
      refine head_callWG rfl rfl rfl (by kernel_rfl) (vs := [_, _, _]) rfl Tryz.call19 (C_Seg G _ _ 6 41 4 hgx (by decide) (ptv qa) (ptv qa) hKa hKa (by decide) (by decide) (by decide)) (by simp) (by decide) ?_
      refine head_callWG rfl rfl rfl (by kernel_rfl) (vs := [_, _, _]) rfl Tryz.call51 (C_At G _ _ 6 41 4 hgx (by decide) (ptv qa).1 (ptv qa).2 (by omega) (by omega) (by decide) (by decide)) (by simp) (by decide) ?_
      refine yq rfl rfl rfl (.binOp rfl rfl (fun _ => run_neQ _ _ (segQ G (ptv qa) (ptv qa)) (evP G (ptv qa).1 (ptv qa).2) _)) ?_
      refine head_bool (fun hc135  => (by exfalso; exact clN (seg_pt G (ptv qa)) hc135)) (fun hc135  => ?_)
      refine yp rfl (.pickF rfl rfl) (yn ?_); intro a w h
      change Code.wp _ _ _ _ _
      refine cond_false h rfl ?_
      refine gC h (zk (zs (zr (zm rfl (zm rfl (zd rfl mr Tryz.isAgg49 Tryz.sizeOf49 (rd_10_0_10 _ _ _ _ _ _ _ _ _ _) ?_)))))); clear h; intro a w h
      refine gL h (zd rfl mr Tryz.isAgg49 Tryz.sizeOf49 (rd_10_0_10 _ _ _ _ _ _ _ _ _ _) ?_); clear h; intro a w h
      refine gL h (zw [_, _, _, _] rfl Tryz.call24 (C_Flow G H _ _ _ _ 6 6 41 41 4 hgx hgy (by decide) (by decide) (ptv qa) (ptv qb) hKa hKb (by decide) (by decide) (by decide) (by decide)) (zz zeroQ fun b22 => zt' rfl rfl (st_5_0_5 _ _ _ _ _ _ _ _ _ _) uu Tryz.sizeOf44 rfl nb rfl ?_)); clear h; intro a w h
      refine gL h (zn (zs (yD mixed_YtealgpgmbflilaaGreatDoor [0, 1, 2, 3, 5, 4, 6, 7, 8, 9, 10, 11, 12, 13, 15, 16, 17, 18, 14, 19, 20, 21, 22, 23, 24, 25, 26] (floatsOK_none (by kernel_rfl)) (yp rfl (.move rfl) (yp rfl (.move rfl) (yd rfl rfl mr Tryz.isAgg49 Tryz.sizeOf49 (rd_10_0_10 _ _ _ _ _ _ _ _ _ _) ?_)))))); clear h
      refine yd rfl rfl mr Tryz.isAgg49 Tryz.sizeOf49 (rd_10_0_10 _ _ _ _ _ _ _ _ _ _) ?_
      refine yd rfl rfl mr Tryz.isAgg44 Tryz.sizeOf44 (rd_5_0_5 _ _ _ _ _) ?_
      refine yw [_, _, _, _] rfl rfl Tryz.call24 (C_Flow G H _ _ _ _ 6 6 41 41 4 hgx hgy (by decide) (by decide) (ptv qb) (ptv qa) hKb hKa (by decide) (by decide) (by decide) (by decide)) (yv [_] rfl rfl Tryz.call32 (C_QNeg _) ?_)
      have hl148 := lenQ_neg (flowQ G H (ptv qa) (ptv qb))
      refine yp rfl (.binOp rfl rfl (fun _ => run_eqQ _ _ (flowQ G H (ptv qb) (ptv qa)) (-(flowQ G H (ptv qa) (ptv qb))) _)) ?_
      refine head_bool (fun hc149  => ?_) (fun hc149  => (by exfalso; exact clE (flow_symm G H (ptv qa) (ptv qb)) hc149))
      refine yp rfl (.move rfl) (yg rfl rfl rfl rfl mr Tryz.isAgg44 Tryz.sizeOf44 (rd_5_0_5 _ _ _ _ _) ?_)
      refine yq rfl rfl rfl (.move rfl) (yq rfl rfl rfl (.move rfl) (yg rfl rfl rfl rfl mr Tryz.isAgg49 Tryz.sizeOf49 (rd_10_0_10 _ _ _ _ _ _ _ _ _ _) ?_))
      refine yg rfl rfl rfl rfl mr Tryz.isAgg49 Tryz.sizeOf49 (rd_10_0_10 _ _ _ _ _ _ _ _ _ _) ?_
      refine yq rfl rfl rfl (.move rfl) (yq rfl rfl rfl (.move rfl) (yg rfl rfl rfl rfl mr Tryz.isAgg49 Tryz.sizeOf49 (rd_10_0_10 _ _ _ _ _ _ _ _ _ _) ?_))
      refine yg rfl rfl rfl rfl mr Tryz.isAgg49 Tryz.sizeOf49 (rd_10_0_10 _ _ _ _ _ _ _ _ _ _) ?_
      refine head_callWG rfl rfl rfl (by kernel_rfl) (vs := [_, _, _, _]) rfl Tryz.call24 (C_Flow G H _ _ _ _ 6 6 41 41 18 hgx hgy (by decide) (by decide) (ptv qa) (((ptv qa).1 + qv qt.1 qt.2 * ((ptv qb).1 - (ptv qa).1), (ptv qa).2 + qv qt.1 qt.2 * ((ptv qb).2 - (ptv qa).2))) hKa8 hKz (by decide) (by decide) (by decide) (by decide)) (by simp) (by decide) ?_
      refine head_callWG rfl rfl rfl (by kernel_rfl) (vs := [_, _, _, _]) rfl Tryz.call24 (C_Flow G H _ _ _ _ 6 6 41 41 18 hgx hgy (by decide) (by decide) (((ptv qa).1 + qv qt.1 qt.2 * ((ptv qb).1 - (ptv qa).1), (ptv qa).2 + qv qt.1 qt.2 * ((ptv qb).2 - (ptv qa).2))) (ptv qb) hKz hKb8 (by decide) (by decide) (by decide) (by decide)) (by simp) (by decide) ?_
      refine head_callVG rfl rfl rfl (by kernel_rfl) (vs := [_, _]) rfl Tryz.call29 (C_QAdd _ _ (by omega) (by omega)) (by decide) ?_
      have hl162 := lenQ_add (flowQ G H (ptv qa) (((ptv qa).1 + qv qt.1 qt.2 * ((ptv qb).1 - (ptv qa).1), (ptv qa).2 + qv qt.1 qt.2 * ((ptv qb).2 - (ptv qa).2)))) (flowQ G H (((ptv qa).1 + qv qt.1 qt.2 * ((ptv qb).1 - (ptv qa).1), (ptv qa).2 + qv qt.1 qt.2 * ((ptv qb).2 - (ptv qa).2))) (ptv qb))
      refine yq rfl rfl rfl (.binOp rfl rfl (fun _ => run_eqQ _ _ (flowQ G H (ptv qa) (ptv qb)) ((flowQ G H (ptv qa) (((ptv qa).1 + qv qt.1 qt.2 * ((ptv qb).1 - (ptv qa).1), (ptv qa).2 + qv qt.1 qt.2 * ((ptv qb).2 - (ptv qa).2)))) + (flowQ G H (((ptv qa).1 + qv qt.1 qt.2 * ((ptv qb).1 - (ptv qa).1), (ptv qa).2 + qv qt.1 qt.2 * ((ptv qb).2 - (ptv qa).2))) (ptv qb))) _)) ?_
      refine head_bool (fun hc163  => ?_) (fun hc163  => (by exfalso; exact clE (ways_flow G H (ptv qa) (ptv qb) (qv qt.1 qt.2)) hc163))
      refine yp rfl (.pickT rfl rfl) (yp rfl (.move rfl) ?_)
      refine head_callVG rfl rfl rfl (by kernel_rfl) (vs := []) rfl Tryz.call15 (C_works9) (by decide) ?_
      refine yp rfl (.pickT rfl rfl) (yp rfl (.assign rfl) (yn (zt ?_))); intro a w h
      refine retV h (results1 h rfl (.tmp rfl)) ?_
      rfl
end Go.Proofs.YtealgpgmbflilaaGreatDoor
