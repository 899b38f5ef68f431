/- Written by a program of ours (gen.py) out of short specifications. By an AI agent. -/
import Derived.Test.YtddhlkfpdjmplaaGreatDoorRefr
set_option linter.unusedVariables false
set_option linter.unusedSimpArgs false
set_option maxRecDepth 4000
namespace Go.Proofs.YtddhlkfpdjmplaaGreatDoor
open Go Go.Proofs Go.Fx
attribute [local irreducible] Oper.wp Code.wp wpList Fx.Head wpOp
theorem bd_59_0_1 (x0_0 : Value) (x0_1 : Value) (x0_2 : Value) (x1_0 : Value) (x1_1 : Value) (x1_2 : Value) (w : World) : (Instr.build 59 [(0, .agg #[x0_0, x0_1, x0_2]), (1, .agg #[x1_0, x1_1, x1_2])].toArray).run Tryz.prog w = .ok (.agg #[x0_0, x0_1, x0_2, x1_0, x1_1, x1_2]) w := by simp [go_sem]
theorem st_6_0_6 (c0 c1 c2 c3 c4 c5 v0 v1 v2 v3 v4 v5 : Value) : setFrom #[c0, c1, c2, c3, c4, c5] 0 [v0, v1, v2, v3, v4, v5] = #[v0, v1, v2, v3, v4, v5] := rfl
theorem rd_4_0_4 (c0 c1 c2 c3 : Value) : readAt true 4 #[c0, c1, c2, c3] 0 = some (.agg #[c0, c1, c2, c3]) := rfl
theorem C_PRef (q : (Int × Int) × (Int × Int)) (hq : OkP q) : Ctr Tryz.prog 15 [encPQ q] [] (fun v Ψ => ∃ a1 c1 a2 c2 b1 d1 b2 d2, v = fPt (ptv q).1 a1 c1 a2 c2 (ptv q).2 b1 d1 b2 d2 ∧ (dg (ptv q).1.num.natAbs).length ≤ c1 ∧ (dg ((ptv q).1.den - 1)).length ≤ c2 ∧ (dg (ptv q).2.num.natAbs).length ≤ d1 ∧ (dg ((ptv q).2.den - 1)).length ≤ d2 ∧ Ψ = [Row a1 (List.map encn (dg ((ptv q).1).num.natAbs)), Row a2 (List.map encn (dg (((ptv q).1).den - 1))), Row b1 (List.map encn (dg ((ptv q).2).num.natAbs)), Row b2 (List.map encn (dg (((ptv q).2).den - 1)))]) := by
  obtain ⟨⟨ha1, ha2, ha3, ha4⟩, hb1, hb2, hb3, hb4⟩ := hq
  refine fn_intro Tryz.func15 rfl Tryz.ntmps15 nb ?_
  intro S w0 a hS h
  refine gC h (zs (zr (zx rfl fun b1 => zz Tryz.zeroValue59 fun b2 => zn (zs (yD mixed_YtddhlkfpdjmplaaGreatDoor [0, 1, 3, 4, 2, 5, 6, 7] (floatsOK_none (by kernel_rfl)) (yp rfl (.indexAddr rfl rfl (ixc_27_0 _ _)) (yd rfl rfl mr Tryz.isAgg25 Tryz.sizeOf25 (rd_4_0_2 _ _ _ _) ?_))))))); clear h
  refine yp rfl (.indexAddr rfl rfl (ixc_27_1 _ _)) (yd rfl rfl mr Tryz.isAgg25 Tryz.sizeOf25 (rd_4_2_2 _ _ _ _) ?_)
  refine yf [_] rfl rfl Tryz.call53 (C_qRef ((q).1.1) ((q).1.2) (by omega) (by omega) (by omega) (by omega)) ?_; rintro v5 Ψ5 ⟨ad5, c5, bd5, d5, rfl, hle5, hlf5, rfl⟩
  have hl5 := lenQ_qv ((q).1.1) ((q).1.2) (by omega) (by omega) (by omega) (by omega)
  refine yf [_] rfl rfl Tryz.call53 (C_qRef ((q).2.1) ((q).2.2) (by omega) (by omega) (by omega) (by omega)) ?_; rintro v8 Ψ8 ⟨ad8, c8, bd8, d8, rfl, hle8, hlf8, rfl⟩
  have hl8 := lenQ_qv ((q).2.1) ((q).2.2) (by omega) (by omega) (by omega) (by omega)
  refine yp rfl (.build [(_, _), (_, _)] rfl (bd_59_0_1 _ _ _ _ _ _)) (yt rfl rfl rfl (st_6_0_6 _ _ _ _ _ _ _ _ _ _ _ _) uu Tryz.sizeOf59 rfl nb rfl ?_)
  refine yn (zt ?_); intro a w h
  refine ret_of (Ψ := [Row ad5 (List.map encn (dg (qv q.1.1 q.1.2).num.natAbs)), Row bd5 (List.map encn (dg ((qv q.1.1 q.1.2).den - 1))), Row ad8 (List.map encn (dg (qv q.2.1 q.2.2).num.natAbs)), Row bd8 (List.map encn (dg ((qv q.2.1 q.2.2).den - 1)))]) h (results1 h rfl (.cell rfl mr Tryz.isAgg59 Tryz.sizeOf59 (rd_6_0_6 _ _ _ _ _ _))) ?_ (by simp)
  exact ⟨ad5, c5, bd5, d5, ad8, c8, bd8, d8, rfl, hle5, hlf5, hle8, hlf8, rfl⟩
theorem C_IntegralsSeg (l m : List Ti) (ad ad2 : Option Addr) (c c2 : Nat) (hokl : ∀ t ∈ l, OkT t) (hokm : ∀ t ∈ m, OkT t) (hln : l.length ≤ 9223372036854775807) (hmn : m.length ≤ 9223372036854775807) (qa : (Int × Int) × (Int × Int)) (qb : (Int × Int) × (Int × Int)) (hqa : OkP qa) (hqb : OkP qb) : CtrW Tryz.prog 3 [.slice ad l.length c, .slice ad2 m.length c2, encPQ qa, encPQ qb] [TabF, Row ad (cellsOf encTi l), Row ad2 (cellsOf encTi m)] (.bool true) := by
  have hKa := ptv_K hqa
  have hKb := ptv_K hqb
  refine fn_intro Tryz.func3 rfl Tryz.ntmps3 nb ?_
  intro S w0 a hS h
  refine gC h (zs (zr (zx rfl fun b6 => zx rfl fun b7 => za rfl (zn (zs (zs (zr (zm rfl (zp (.builtin [_] rfl (len_slice_22 _ _ _)) (zp (.gtr rfl rfl) ?_)))))))))); clear h; intro a w h
  refine by_bool h (fun hc17 h => ?_) (fun hc17 h => ?_)
  · skip
    refine gL h (zm rfl (zo 18 rfl rfl rfl (zo 18 rfl rfl rfl (zo 18 rfl rfl rfl (zp (.pickT rfl rfl) (zn ?_)))))); clear h; intro a w h
    change Code.wp _ _ _ _ _
    refine cond_true h rfl ?_
    refine gC h (zs (zr (zv [] rfl Tryz.call7 (C_works9) (za rfl (zn (zt ?_)))))); clear h; intro a w h
    refine retV h (results1 h rfl (.tmp rfl)) ?_
    rfl
  · skip
    refine gL h (zm rfl (zq 18 rfl rfl (.move rfl) (zq 18 rfl rfl (.builtin [_] rfl (len_slice_22 _ _ _)) (zq 18 rfl rfl (.gtr rfl rfl) ?_)))); clear h; intro a w h
    refine by_bool h (fun hc21 h => ?_) (fun hc21 h => ?_)
    · skip
      refine gL h (zp (.pickF rfl rfl) (zn ?_)); clear h; intro a w h
      change Code.wp _ _ _ _ _
      refine cond_true h rfl ?_
      refine gC h (zs (zr (zv [] rfl Tryz.call7 (C_works9) (za rfl (zn (zt ?_)))))); clear h; intro a w h
      refine retV h (results1 h rfl (.tmp rfl)) ?_
      rfl
    · skip
      have hll : l.length ≤ 6 := by have := of_decide_eq_false hc17; omega
      have hml : m.length ≤ 6 := by have := of_decide_eq_false hc21; omega
      have hgx := made_Pq (d := 6) hokl hll (by decide) (by decide)
      have hgy := made_Pq (d := 6) hokm hml (by decide) (by decide)
      refine gL h (zp (.pickF rfl rfl) (zn ?_)); clear h; intro a w h
      change Code.wp _ _ _ _ _
      refine cond_false h rfl ?_
      refine gC h (zk (zs (zr (zm rfl ?_)))); clear h; intro a w h
      have hpl := raw_Pq (d := 5) (m := 6) hokl (by omega) (by decide)
      have hpm := raw_Pq (d := 5) (m := 6) hokm (by omega) (by decide)
      have hs1 : lenQ (segQ (madeL 5 l) (ptv qa) (ptv qb)) ≤ 300000 := Nat.le_trans (lenQ_seg hpl (by decide) hKa hKb (by decide)) (by decide +kernel)
      have hs2 : lenQ (flowQ (madeL 5 l) (madeL 5 m) (ptv qa) (ptv qb)) ≤ 300000 := lenQ_flow hpl hpm (by decide) (by decide) hKa hKb (by decide) (by decide +kernel)
      refine gL h (zf [_, _] rfl Tryz.call8 (C_Brought l _ _ 5 (by decide) (by omega)) ?_); clear h; rintro v25 Ψ25 ⟨ad25, c25, rfl, rfl⟩ a w h
      refine gL h (zm rfl (zf [_, _] rfl Tryz.call8 (C_Brought m _ _ 5 (by decide) (by omega)) ?_)); clear h; rintro v27 Ψ27 ⟨ad27, c27, rfl, rfl⟩ a w h
      refine gL h (za rfl (za rfl (zn (zs (zr (zm rfl (zf [_] rfl Tryz.call9 (C_RefB l _ _ 5 (by decide) hokl (by omega)) ?_))))))); clear h; rintro v30 Ψ30 ⟨b30, l30, rfl, hn30, he30, rfl⟩ a w h
      replace he30 := ref_made (by decide) he30
      have ht30 := ref_Tb (m := 6) (by decide) hokl (by omega) (by decide) hn30 he30
      refine gL h (zm rfl (zp (.extract rfl (fun _ => rfl)) (zp (.extract rfl (fun _ => rfl)) (za rfl (za rfl (zn (zs (zr (zm rfl (zf [_] rfl Tryz.call9 (C_RefB m _ _ 5 (by decide) hokm (by omega)) ?_)))))))))); clear h; rintro v35 Ψ35 ⟨b35, l35, rfl, hn35, he35, rfl⟩ a w h
      replace he35 := ref_made (by decide) he35
      have ht35 := ref_Tb (m := 6) (by decide) hokm (by omega) (by decide) hn35 he35
      refine gL h (zm rfl (zp (.extract rfl (fun _ => rfl)) (zp (.extract rfl (fun _ => rfl)) (za rfl (za rfl (zn (zs (yD mixed_YtddhlkfpdjmplaaGreatDoor [0, 2, 4, 7, 8, 10, 1, 3, 5, 6, 9, 11, 12, 13, 14, 15, 17, 19, 21, 24, 25, 26, 28, 16, 18, 20, 22, 23, 27, 29, 30, 31, 32, 33, 34, 35, 36] (floatsOK_none (by kernel_rfl)) (yp rfl (.move rfl) (yd rfl rfl mr Tryz.isAgg27 Tryz.sizeOf27 (rd_4_0_4 _ _ _ _) ?_)))))))))); clear h
      refine yd rfl rfl mr Tryz.isAgg27 Tryz.sizeOf27 (rd_4_0_4 _ _ _ _) ?_
      refine yp rfl (.move rfl) (yd rfl rfl mr Tryz.isAgg27 Tryz.sizeOf27 (rd_4_0_4 _ _ _ _) ?_)
      refine yd rfl rfl mr Tryz.isAgg27 Tryz.sizeOf27 (rd_4_0_4 _ _ _ _) ?_
      refine yf [_] rfl rfl Tryz.call12 (C_RawB l _ _ 5 hokl (by omega)) ?_; rintro v39 Ψ39 ⟨ad39, c39, rfl, rfl⟩
      refine yv [_] rfl rfl Tryz.call13 (C_POf qa (by assumption)) (yv [_] rfl rfl Tryz.call13 (C_POf qb (by assumption)) (yw [_, _, _] rfl rfl Tryz.call11 (C_Seg (madeL 5 l) _ _ 5 31 4 hpl (by decide) (ptv qa) (ptv qb) hKa hKb (by decide) (by decide) (by decide)) (yf [_] rfl rfl Tryz.call15 (C_PRef qa (by assumption)) ?_))); rintro v47 Ψ47 ⟨a47, c47, e47, f47, g47, i47, j47, k47, rfl, hp47, hq47, hr47, hs47, rfl⟩
      refine yf [_] rfl rfl Tryz.call15 (C_PRef qb (by assumption)) ?_; rintro v49 Ψ49 ⟨a49, c49, e49, f49, g49, i49, j49, k49, rfl, hp49, hq49, hr49, hs49, rfl⟩
      refine yf [_, _, _] rfl rfl Tryz.call14 (C_rSeg b30 l30 5 31 ht30 (by decide) (by decide) _ _ _ _ _ _ _ _ _ _ _ _ _ _ _ _ (ptv qa).1 (ptv qa).2 (ptv qb).1 (ptv qb).2 4 hKa.1 hKa.2 hKb.1 hKb.2 hp47 hq47 hr47 hs47 hp49 hq49 hr49 hs49 (by decide) (by decide)) ?_; rintro v50 Ψ50 ⟨ad50, c50, bd50, d50, rfl, hle50, hlf50, rfl⟩
      refine yw [_, _] rfl rfl Tryz.call10 (C_SameG _ _ _ _ (segQ (madeL 5 l) (ptv qa) (ptv qb)) (segQ (pol (xs l30)) (ptv qa) (ptv qb)) hs1 (segQ_eqv he30 _ _)) (yp rfl (.move rfl) ?_)
      refine head_bool (fun hc52  => ?_) (fun hc52  => (by exfalso; cases hc52))
      refine yq rfl rfl rfl (.move rfl) (yq rfl rfl rfl (.move rfl) (yg rfl rfl rfl rfl mr Tryz.isAgg27 Tryz.sizeOf27 (rd_4_0_4 _ _ _ _) ?_))
      refine yg rfl rfl rfl rfl mr Tryz.isAgg27 Tryz.sizeOf27 (rd_4_0_4 _ _ _ _) ?_
      refine yq rfl rfl rfl (.move rfl) (yq rfl rfl rfl (.move rfl) (yg rfl rfl rfl rfl mr Tryz.isAgg27 Tryz.sizeOf27 (rd_4_0_4 _ _ _ _) ?_))
      refine yg rfl rfl rfl rfl mr Tryz.isAgg27 Tryz.sizeOf27 (rd_4_0_4 _ _ _ _) ?_
      refine head_callG rfl rfl rfl (by kernel_rfl) (vs := [_]) rfl Tryz.call12 (C_RawB l _ _ 5 hokl (by omega)) (by simp) (by decide) ?_; rintro v54 Ψ54 ⟨ad54, c54, rfl, rfl⟩
      refine head_callG rfl rfl rfl (by kernel_rfl) (vs := [_]) rfl Tryz.call12 (C_RawB m _ _ 5 hokm (by omega)) (by simp) (by decide) ?_; rintro v56 Ψ56 ⟨ad56, c56, rfl, rfl⟩
      refine head_callVG rfl rfl rfl (by kernel_rfl) (vs := [_]) rfl Tryz.call13 (C_POf qa (by assumption)) (by decide) ?_
      refine head_callVG rfl rfl rfl (by kernel_rfl) (vs := [_]) rfl Tryz.call13 (C_POf qb (by assumption)) (by decide) ?_
      refine head_callWG rfl rfl rfl (by kernel_rfl) (vs := [_, _, _, _]) rfl Tryz.call16 (C_Flow (madeL 5 l) (madeL 5 m) _ _ _ _ 5 5 31 31 4 hpl hpm (by decide) (by decide) (ptv qa) (ptv qb) hKa hKb (by decide) (by decide) (by decide) (by decide)) (by simp) (by decide) ?_
      refine head_callG rfl rfl rfl (by kernel_rfl) (vs := [_]) rfl Tryz.call15 (C_PRef qa (by assumption)) (by simp) (by decide) ?_; rintro v65 Ψ65 ⟨a65, c65, e65, f65, g65, i65, j65, k65, rfl, hp65, hq65, hr65, hs65, rfl⟩
      refine head_callG rfl rfl rfl (by kernel_rfl) (vs := [_]) rfl Tryz.call15 (C_PRef qb (by assumption)) (by simp) (by decide) ?_; rintro v67 Ψ67 ⟨a67, c67, e67, f67, g67, i67, j67, k67, rfl, hp67, hq67, hr67, hs67, rfl⟩
      refine head_callG rfl rfl rfl (by kernel_rfl) (vs := [_, _, _, _]) rfl Tryz.call17 (C_rFlow b30 l30 5 31 ht30 (by decide) (by decide) b35 l35 5 31 ht35 (by decide) (by decide) _ _ _ _ _ _ _ _ _ _ _ _ _ _ _ _ (ptv qa).1 (ptv qa).2 (ptv qb).1 (ptv qb).2 4 hKa.1 hKa.2 hKb.1 hKb.2 hp65 hq65 hr65 hs65 hp67 hq67 hr67 hs67 (by decide) (by decide)) (by simp) (by decide) ?_; rintro v68 Ψ68 ⟨ad68, c68, bd68, d68, rfl, hle68, hlf68, rfl⟩
      refine head_callWG rfl rfl rfl (by kernel_rfl) (vs := [_, _]) rfl Tryz.call10 (C_SameG _ _ _ _ (flowQ (madeL 5 l) (madeL 5 m) (ptv qa) (ptv qb)) (flowQ (pol (xs l30)) (pol (xs l35)) (ptv qa) (ptv qb)) hs2 (flowQ_eqv he30 he35 _ _)) (by simp) (by decide) ?_
      refine yp rfl (.pickT rfl rfl) (yp rfl (.move rfl) ?_)
      refine head_bool (fun hc71  => ?_) (fun hc71  => (by exfalso; cases hc71))
      refine head_callVG rfl rfl rfl (by kernel_rfl) (vs := []) rfl Tryz.call7 (C_works9) (by decide) ?_
      refine yp rfl (.pickT rfl rfl) (yp rfl (.assign rfl) (yn (zt ?_))); intro a w h
      refine retV h (results1 h rfl (.tmp rfl)) ?_
      rfl
end Go.Proofs.YtddhlkfpdjmplaaGreatDoor
