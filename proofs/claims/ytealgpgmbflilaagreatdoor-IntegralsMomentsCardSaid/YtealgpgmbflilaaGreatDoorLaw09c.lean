/- Written by a program of ours (gen.py) out of short specifications. By an AI agent. -/
import Derived.Test.YtealgpgmbflilaaGreatDoorLaw09b
set_option linter.unusedVariables false
set_option linter.unusedSimpArgs false
set_option maxRecDepth 4000
namespace Go.Proofs.YtealgpgmbflilaaGreatDoor
open Go Go.Proofs Go.Fx
attribute [local irreducible] Oper.wp Code.wp wpList Fx.Head wpOp

theorem clN {p : Prop} [Decidable p] (h : p) (hc : (!decide p) = true) : False := by rw [decide_eq_true h] at hc; cases hc
theorem clE {p : Prop} [Decidable p] (h : p) (hc : decide p = false) : False := absurd h (of_decide_eq_false hc)
theorem parts1 (p : List Tm) (u v w z : Pt) : triQ p u v w = [triQ p u v z, triQ p v w z, triQ p w u z].foldl (· + ·) 0 := by
  rw [tri_split p u v w z]; simp only [List.foldl_cons, List.foldl_nil]; grind
theorem parts2 (p q : List Tm) (u v w : Pt) : triQ (norm (p ++ q)) u v w = triQ p u v w + triQ q u v w := by rw [nrm_tri, triQ_app]
theorem parts3 (u v w : Pt) : triQ (norm p1) u v w = twQ u v w / ((2 : Int) : Rat) := by rw [nrm_tri]; exact tri_one u v w
theorem parts4 (u v w : Pt) : twQ v u w / ((2 : Int) : Rat) = -(twQ u v w / ((2 : Int) : Rat)) := by unfold twQ; grind
theorem parts5 (p : List Tm) (u v w : Pt) : triQ (norm (shL p (v.1 - u.1) (w.1 - u.1) u.1 (v.2 - u.2) (w.2 - u.2) u.2)) (zpt 0 0) (zpt 1 0) (zpt 0 1) * (((2 : Int) : Rat) * (twQ u v w / ((2 : Int) : Rat))) = triQ p u v w := by
  rw [nrm_tri, ← tri_unit p u v w]
  have e : ((2 : Int) : Rat) * (twQ u v w / ((2 : Int) : Rat)) = twQ u v w := by
    have : ((2 : Int) : Rat) = 2 := rfl
    rw [this]; grind
  rw [e]; rfl
theorem cut_K {u v : Pt} {s : Rat} (hu : PtK 4 u) (hv : PtK 4 v) (hs : lenQ s ≤ 4) : PtK 18 (u.1 + s * (v.1 - u.1), u.2 + s * (v.2 - u.2)) := by
  have h1 := lenQ_less hv.1 hu.1
  have h2 := lenQ_less hv.2 hu.2
  have h3 := lenQ_mul s (v.1 - u.1)
  have h4 := lenQ_mul s (v.2 - u.2)
  have h5 := lenQ_add u.1 (s * (v.1 - u.1))
  have h6 := lenQ_add u.2 (s * (v.2 - u.2))
  have := hu.1
  have := hu.2
  constructor <;> (simp only; omega)
theorem lenQ_area {K : Nat} {a b c : Pt} (ha : PtK K a) (hb : PtK K b) (hc : PtK K c) : lenQ (twQ a b c / ((2 : Int) : Rat)) ≤ 8 * K + 7 := by
  have := lenQ_tw ha hb hc
  have := lenQ_div (twQ a b c) ((2 : Int) : Rat)
  have := lenQ_int 2 (by decide) (by decide)
  omega
theorem lenQ_ev {d K Kx : Nat} {p : List Tm} (hq : Pq d K p) (hd : d ≤ 12) {x y : Rat} (hx : lenQ x ≤ Kx) (hy : lenQ y ≤ Kx) : lenQ (evP p x y) ≤ 2 + 91 * (K + (4 + 12 * Kx) + 1) := by
  rw [← at_ev x y ((DL_norm hq.deg).mono hd)]
  have h1 := lenQ_linF (φ := PWf x y) (Kf := 4 + 12 * Kx) (norm p).length (Nat.le_refl _) hq.nsz (fun t ht => lenQ_PWf hx hy t.i t.j (by have := (DL_norm hq.deg) t ht; omega))
  rw [List.take_length] at h1
  have h2 := Nat.mul_le_mul_right (K + (4 + 12 * Kx) + 1) (hq.n91 hd)
  omega

theorem C_IntegralsParts (l m : List Ti) (ad ad2 : Option Addr) (c c2 : Nat) (hokl : ∀ t ∈ l, OkT t) (hokm : ∀ t ∈ m, OkT t) (hln : l.length ≤ 9223372036854775807) (hmn : m.length ≤ 9223372036854775807) (qa : (Int × Int) × (Int × Int)) (qb : (Int × Int) × (Int × Int)) (qc : (Int × Int) × (Int × Int)) (qd : (Int × Int) × (Int × Int)) (hqa : OkP qa) (hqb : OkP qb) (hqc : OkP qc) (hqd : OkP qd) : CtrW Tryz.prog 7 [.slice ad l.length c, .slice ad2 m.length c2, encPQ qa, encPQ qb, encPQ qc, encPQ qd] [Row ad (cellsOf encTi l), Row ad2 (cellsOf encTi m)] (.bool true) := by
  have hKa := ptv_K hqa
  have hKb := ptv_K hqb
  have hKc := ptv_K hqc
  have hKd := ptv_K hqd
  obtain ⟨ha1, ha2⟩ := hKa
  obtain ⟨hb1, hb2⟩ := hKb
  obtain ⟨hc1, hc2⟩ := hKc
  have hKa : PtK 4 (ptv qa) := ⟨ha1, ha2⟩
  have hKb : PtK 4 (ptv qb) := ⟨hb1, hb2⟩
  have hKc : PtK 4 (ptv qc) := ⟨hc1, hc2⟩
  refine fn_intro Tryz.func7 rfl Tryz.ntmps7 nb ?_
  intro S w0 a hS h
  refine gC h (zs (zr (zx rfl fun b8 => zx rfl fun b9 => zx rfl fun b10 => zx rfl fun b11 => za rfl (zn (zs (zs (zr (zm rfl (zp (.builtin [_] rfl (len_slice_22 _ _ _)) (zp (.gtr rfl rfl) ?_)))))))))); clear h; intro a w h
  refine by_bool h (fun hc28 h => ?_) (fun hc28 h => ?_)
  · skip
    refine gL h (zm rfl (zo 29 rfl rfl rfl (zo 29 rfl rfl rfl (zo 29 rfl rfl rfl (zp (.pickT rfl rfl) (zn ?_)))))); clear h; intro a w h
    change Code.wp _ _ _ _ _
    refine cond_true h rfl ?_
    refine gC h (zs (zr (zv [] rfl Tryz.call15 (C_works9) (za rfl (zn (zt ?_)))))); clear h; intro a w h
    refine retV h (results1 h rfl (.tmp rfl)) ?_
    rfl
  · skip
    refine gL h (zm rfl (zq 29 rfl rfl (.move rfl) (zq 29 rfl rfl (.builtin [_] rfl (len_slice_22 _ _ _)) (zq 29 rfl rfl (.gtr rfl rfl) ?_)))); clear h; intro a w h
    refine by_bool h (fun hc32 h => ?_) (fun hc32 h => ?_)
    · skip
      refine gL h (zp (.pickF rfl rfl) (zn ?_)); clear h; intro a w h
      change Code.wp _ _ _ _ _
      refine cond_true h rfl ?_
      refine gC h (zs (zr (zv [] rfl Tryz.call15 (C_works9) (za rfl (zn (zt ?_)))))); clear h; intro a w h
      refine retV h (results1 h rfl (.tmp rfl)) ?_
      rfl
    · skip
      have hll : l.length ≤ 6 := by have := of_decide_eq_false hc28; omega
      have hml : m.length ≤ 6 := by have := of_decide_eq_false hc32; omega
      have hgx := made_Pq (d := 4) hokl hll (by decide) (by decide)
      have hgy := made_Pq (d := 4) hokm hml (by decide) (by decide)
      refine gL h (zp (.pickF rfl rfl) (zn ?_)); clear h; intro a w h
      change Code.wp _ _ _ _ _
      refine cond_false h rfl ?_
      refine gC h (zk (zs (zr (zm rfl (zf [_, _] rfl Tryz.call26 (C_Made l _ _ 4 8 (by assumption) (by omega) (by omega)) ?_))))); clear h; rintro v36 Ψ36 ⟨ad36, c36, rfl, rfl⟩ a w h
      refine gL h (zm rfl (zf [_, _] rfl Tryz.call26 (C_Made m _ _ 4 8 (by assumption) (by omega) (by omega)) ?_)); clear h; rintro v38 Ψ38 ⟨ad38, c38, rfl, rfl⟩ a w h
      obtain ⟨G, hnG⟩ : ∃ G, norm (madeL 4 l) = G := ⟨_, rfl⟩
      rw [hnG] at h hgx
      obtain ⟨H, hnH⟩ : ∃ G, norm (madeL 4 m) = G := ⟨_, rfl⟩
      rw [hnH] at h hgy
      have hlA : lenQ (triQ G (ptv qa) (ptv qb) (ptv qc)) ≤ 1000000 := (Nat.le_trans (lenQ_tri hgx (by decide) hKa hKb hKc) (by decide +kernel))
      have hlB : lenQ (triQ H (ptv qa) (ptv qb) (ptv qc)) ≤ 1000000 := (Nat.le_trans (lenQ_tri hgy (by decide) hKa hKb hKc) (by decide +kernel))
      have hlC := lenQ_area hKa hKb hKc
      refine gL h (za rfl (za rfl (zn (zs (yD mixed_YtealgpgmbflilaaGreatDoor [0, 2, 4, 6, 1, 3, 5, 7, 8, 9, 10, 11, 12, 13, 14, 15] (floatsOK_of ⟨.inl rfl, .inl rfl, .inl rfl, .inl rfl, .inl rfl, .inl rfl, .inl rfl, .inl rfl, .inr ⟨15, 49, _, _, _, rfl, rfl, by decide, _, zeroPt⟩, .inr ⟨16, 49, _, _, _, rfl, rfl, by decide, _, zeroPt⟩, .inr ⟨17, 49, _, _, _, rfl, rfl, by decide, _, zeroPt⟩, .inr ⟨18, 49, _, _, _, rfl, rfl, by decide, _, zeroPt⟩, .inl rfl, .inl rfl, .inl rfl, .inl rfl, trivial⟩) (yd rfl rfl mr Tryz.isAgg27 Tryz.sizeOf27 (rd_4_0_4 _ _ _ _) ?_)))))); clear h
      refine yd rfl rfl mr Tryz.isAgg27 Tryz.sizeOf27 (rd_4_0_4 _ _ _ _) ?_
      refine yd rfl rfl mr Tryz.isAgg27 Tryz.sizeOf27 (rd_4_0_4 _ _ _ _) ?_
      refine yd rfl rfl mr Tryz.isAgg27 Tryz.sizeOf27 (rd_4_0_4 _ _ _ _) ?_
      refine yv [_] rfl rfl Tryz.call21 (C_POf qa (by assumption)) (yv [_] rfl rfl Tryz.call21 (C_POf qb (by assumption)) (yv [_] rfl rfl Tryz.call21 (C_POf qc (by assumption)) (yv [_] rfl rfl Tryz.call21 (C_POf qd (by assumption)) (yz rfl zeroPt fun b15 => yz rfl zeroPt fun b16 => yz rfl zeroPt fun b17 => yz rfl zeroPt fun b18 => yt rfl rfl rfl (st_10_0_10 _ _ _ _ _ _ _ _ _ _ _ _ _ _ _ _ _ _ _ _) uu Tryz.sizeOf49 rfl nb rfl ?_))))
      refine yt rfl rfl rfl (st_10_0_10 _ _ _ _ _ _ _ _ _ _ _ _ _ _ _ _ _ _ _ _) uu Tryz.sizeOf49 rfl nb rfl ?_
      refine yt rfl rfl rfl (st_10_0_10 _ _ _ _ _ _ _ _ _ _ _ _ _ _ _ _ _ _ _ _) uu Tryz.sizeOf49 rfl nb rfl ?_
      refine yt rfl rfl rfl (st_10_0_10 _ _ _ _ _ _ _ _ _ _ _ _ _ _ _ _ _ _ _ _) uu Tryz.sizeOf49 rfl nb rfl ?_
      refine yn (zs (zr (zm rfl (zd rfl mr Tryz.isAgg49 Tryz.sizeOf49 (rd_10_0_10 _ _ _ _ _ _ _ _ _ _) ?_)))); intro a w h
      refine gL h (zd rfl mr Tryz.isAgg49 Tryz.sizeOf49 (rd_10_0_10 _ _ _ _ _ _ _ _ _ _) ?_); clear h; intro a w h
      refine gL h (zd rfl mr Tryz.isAgg49 Tryz.sizeOf49 (rd_10_0_10 _ _ _ _ _ _ _ _ _ _) ?_); clear h; intro a w h
      refine gL h (zw [_, _, _, _] rfl Tryz.call46 (C_Tri G _ _ 4 31 4 hgx (by decide) (ptv qa) (ptv qb) (ptv qc) hKa hKb hKc (by decide) (by decide)) (zz zeroQ fun b19 => zt' rfl rfl (st_5_0_5 _ _ _ _ _ _ _ _ _ _) uu Tryz.sizeOf44 rfl nb rfl ?_)); clear h; intro a w h
      refine gL h (zn (zs (zs (yD mixed_YtealgpgmbflilaaGreatDoor [0, 1, 2, 3, 4, 6, 7, 8, 9, 11, 12, 13, 14, 5, 10, 15, 16, 17, 18, 19, 20, 21, 23, 24, 25, 27, 28, 29, 30, 31, 22, 26, 32, 33, 34, 35, 36, 37, 38, 39, 40, 42, 41, 43, 44, 45, 46, 47, 48, 49, 51, 50, 52, 53, 54] (floatsOK_none (by kernel_rfl)) (yd rfl rfl mr Tryz.isAgg44 Tryz.sizeOf44 (rd_5_0_5 _ _ _ _ _) ?_))))); clear h
      refine yp rfl (.move rfl) (yd rfl rfl mr Tryz.isAgg49 Tryz.sizeOf49 (rd_10_0_10 _ _ _ _ _ _ _ _ _ _) ?_)
      refine yd rfl rfl mr Tryz.isAgg49 Tryz.sizeOf49 (rd_10_0_10 _ _ _ _ _ _ _ _ _ _) ?_
      refine yd rfl rfl mr Tryz.isAgg49 Tryz.sizeOf49 (rd_10_0_10 _ _ _ _ _ _ _ _ _ _) ?_
      refine yp rfl (.move rfl) (yd rfl rfl mr Tryz.isAgg49 Tryz.sizeOf49 (rd_10_0_10 _ _ _ _ _ _ _ _ _ _) ?_)
      refine yd rfl rfl mr Tryz.isAgg49 Tryz.sizeOf49 (rd_10_0_10 _ _ _ _ _ _ _ _ _ _) ?_
      refine yd rfl rfl mr Tryz.isAgg49 Tryz.sizeOf49 (rd_10_0_10 _ _ _ _ _ _ _ _ _ _) ?_
      refine yp rfl (.move rfl) (yd rfl rfl mr Tryz.isAgg49 Tryz.sizeOf49 (rd_10_0_10 _ _ _ _ _ _ _ _ _ _) ?_)
      refine yd rfl rfl mr Tryz.isAgg49 Tryz.sizeOf49 (rd_10_0_10 _ _ _ _ _ _ _ _ _ _) ?_
      refine yd rfl rfl mr Tryz.isAgg49 Tryz.sizeOf49 (rd_10_0_10 _ _ _ _ _ _ _ _ _ _) ?_
      refine yw [_, _, _, _] rfl rfl Tryz.call46 (C_Tri G _ _ 4 31 4 hgx (by decide) (ptv qa) (ptv qb) (ptv qd) hKa hKb hKd (by decide) (by decide)) (yw [_, _, _, _] rfl rfl Tryz.call46 (C_Tri G _ _ 4 31 4 hgx (by decide) (ptv qb) (ptv qc) (ptv qd) hKb hKc hKd (by decide) (by decide)) (yw [_, _, _, _] rfl rfl Tryz.call46 (C_Tri G _ _ 4 31 4 hgx (by decide) (ptv qc) (ptv qa) (ptv qd) hKc hKa hKd (by decide) (by decide)) ?_))
      refine head_buildRow hS rfl (by kernel_rfl) [(_, _), (_, _), (_, _)] rfl (bs_146_3_0_1_2 _ _ _ _ _ _ _ _ _ _ _ _ _ _ _) (cellsOf encQ [triQ G (ptv qa) (ptv qb) (ptv qd), triQ G (ptv qb) (ptv qc) (ptv qd), triQ G (ptv qc) (ptv qa) (ptv qd)]) rfl (by decide) ?_; intro b68
      refine yw [_] rfl rfl Tryz.call36 (C_QSumK _ _ 1000000 [triQ G (ptv qa) (ptv qb) (ptv qd), triQ G (ptv qb) (ptv qc) (ptv qd), triQ G (ptv qc) (ptv qa) (ptv qd)] (by simp) (by decide) (three_K (Nat.le_trans (lenQ_tri hgx (by decide) hKa hKb hKd) (by decide +kernel)) (Nat.le_trans (lenQ_tri hgx (by decide) hKb hKc hKd) (by decide +kernel)) (Nat.le_trans (lenQ_tri hgx (by decide) hKc hKa hKd) (by decide +kernel)))) (yp rfl (.binOp rfl rfl (fun _ => run_neQ _ _ (triQ G (ptv qa) (ptv qb) (ptv qc)) ([triQ G (ptv qa) (ptv qb) (ptv qd), triQ G (ptv qb) (ptv qc) (ptv qd), triQ G (ptv qc) (ptv qa) (ptv qd)].foldl (· + ·) 0) _)) ?_)
      refine head_bool (fun hc70  => (by exfalso; exact clN (parts1 G (ptv qa) (ptv qb) (ptv qc) (ptv qd)) hc70)) (fun hc70  => ?_)
      refine yp rfl (.move rfl) (yq rfl rfl rfl (.move rfl) (yq rfl rfl rfl (.move rfl) (yg rfl rfl rfl rfl mr Tryz.isAgg49 Tryz.sizeOf49 (rd_10_0_10 _ _ _ _ _ _ _ _ _ _) ?_)))
      refine yg rfl rfl rfl rfl mr Tryz.isAgg49 Tryz.sizeOf49 (rd_10_0_10 _ _ _ _ _ _ _ _ _ _) ?_
      refine yg rfl rfl rfl rfl mr Tryz.isAgg49 Tryz.sizeOf49 (rd_10_0_10 _ _ _ _ _ _ _ _ _ _) ?_
      refine yg rfl rfl rfl rfl mr Tryz.isAgg44 Tryz.sizeOf44 (rd_5_0_5 _ _ _ _ _) ?_
      refine yq rfl rfl rfl (.move rfl) (yg rfl rfl rfl rfl mr Tryz.isAgg49 Tryz.sizeOf49 (rd_10_0_10 _ _ _ _ _ _ _ _ _ _) ?_)
      refine yg rfl rfl rfl rfl mr Tryz.isAgg49 Tryz.sizeOf49 (rd_10_0_10 _ _ _ _ _ _ _ _ _ _) ?_
      refine yg rfl rfl rfl rfl mr Tryz.isAgg49 Tryz.sizeOf49 (rd_10_0_10 _ _ _ _ _ _ _ _ _ _) ?_
      refine head_callG rfl rfl rfl (by kernel_rfl) (vs := [_, _]) rfl Tryz.call41 (C_pAddF G H _ _ _ _ 4 4 31 31 hgx hgy (by decide) (by decide) (by decide) (by decide)) (by simp) (by decide) ?_; rintro v74 Ψ74 ⟨ad74, c74, rfl, rfl⟩
      refine head_callWG rfl rfl rfl (by kernel_rfl) (vs := [_, _, _, _]) rfl Tryz.call46 (C_Tri (norm (G ++ H)) _ _ 4 64 4 (hgx.add hgy (by decide) (by decide)) (by decide) (ptv qa) (ptv qb) (ptv qc) hKa hKb hKc (by decide) (by decide)) (by simp) (by decide) ?_
      refine head_callWG rfl rfl rfl (by kernel_rfl) (vs := [_, _, _, _]) rfl Tryz.call46 (C_Tri H _ _ 4 31 4 hgy (by decide) (ptv qa) (ptv qb) (ptv qc) hKa hKb hKc (by decide) (by decide)) (by simp) (by decide) ?_
      refine head_callVG rfl rfl rfl (by kernel_rfl) (vs := [_, _]) rfl Tryz.call29 (C_QAdd _ _ (by omega) (by omega)) (by decide) ?_
      have hl85 := lenQ_add (triQ G (ptv qa) (ptv qb) (ptv qc)) (triQ H (ptv qa) (ptv qb) (ptv qc))
      refine yq rfl rfl rfl (.binOp rfl rfl (fun _ => run_neQ _ _ (triQ (norm (G ++ H)) (ptv qa) (ptv qb) (ptv qc)) ((triQ G (ptv qa) (ptv qb) (ptv qc)) + (triQ H (ptv qa) (ptv qb) (ptv qc))) _)) ?_
      refine head_bool (fun hc86  => (by exfalso; exact clN (parts2 G H (ptv qa) (ptv qb) (ptv qc)) hc86)) (fun hc86  => ?_)
      refine yp rfl (.pickF rfl rfl) (yp rfl (.move rfl) (yq rfl rfl rfl (.move rfl) (yg rfl rfl rfl rfl mr Tryz.isAgg49 Tryz.sizeOf49 (rd_10_0_10 _ _ _ _ _ _ _ _ _ _) ?_)))
      refine yg rfl rfl rfl rfl mr Tryz.isAgg49 Tryz.sizeOf49 (rd_10_0_10 _ _ _ _ _ _ _ _ _ _) ?_
      refine yg rfl rfl rfl rfl mr Tryz.isAgg49 Tryz.sizeOf49 (rd_10_0_10 _ _ _ _ _ _ _ _ _ _) ?_
      refine yg rfl rfl rfl rfl mr Tryz.isAgg44 Tryz.sizeOf44 (rd_5_0_5 _ _ _ _ _) ?_
      refine head_callWG rfl rfl rfl (by kernel_rfl) (vs := [_, _, _, _]) rfl Tryz.call46 (C_Tri G _ _ 4 31 4 hgx (by decide) (ptv qb) (ptv qc) (ptv qa) hKb hKc hKa (by decide) (by decide)) (by simp) (by decide) ?_
      refine yq rfl rfl rfl (.binOp rfl rfl (fun _ => run_neQ _ _ (triQ G (ptv qb) (ptv qc) (ptv qa)) (triQ G (ptv qa) (ptv qb) (ptv qc)) _)) ?_
      refine head_bool (fun hc95  => (by exfalso; exact clN (tri_cyc G (ptv qa) (ptv qb) (ptv qc)) hc95)) (fun hc95  => ?_)
      refine yp rfl (.pickF rfl rfl) (yp rfl (.move rfl) (yq rfl rfl rfl (.move rfl) (yg rfl rfl rfl rfl mr Tryz.isAgg49 Tryz.sizeOf49 (rd_10_0_10 _ _ _ _ _ _ _ _ _ _) ?_)))
      refine yg rfl rfl rfl rfl mr Tryz.isAgg49 Tryz.sizeOf49 (rd_10_0_10 _ _ _ _ _ _ _ _ _ _) ?_
      refine yg rfl rfl rfl rfl mr Tryz.isAgg49 Tryz.sizeOf49 (rd_10_0_10 _ _ _ _ _ _ _ _ _ _) ?_
      refine yg rfl rfl rfl rfl mr Tryz.isAgg44 Tryz.sizeOf44 (rd_5_0_5 _ _ _ _ _) ?_
      refine head_callWG rfl rfl rfl (by kernel_rfl) (vs := [_, _, _, _]) rfl Tryz.call46 (C_Tri G _ _ 4 31 4 hgx (by decide) (ptv qa) (ptv qc) (ptv qb) hKa hKc hKb (by decide) (by decide)) (by simp) (by decide) ?_
      refine head_callVG rfl rfl rfl (by kernel_rfl) (vs := [_]) rfl Tryz.call32 (C_QNeg _) (by decide) ?_
      have hl104 := lenQ_neg (triQ G (ptv qa) (ptv qb) (ptv qc))
      refine yq rfl rfl rfl (.binOp rfl rfl (fun _ => run_neQ _ _ (triQ G (ptv qa) (ptv qc) (ptv qb)) (-(triQ G (ptv qa) (ptv qb) (ptv qc))) _)) ?_
      refine head_bool (fun hc105  => (by exfalso; exact clN (tri_swap G (ptv qa) (ptv qb) (ptv qc)) hc105)) (fun hc105  => ?_)
      refine yp rfl (.pickF rfl rfl) (yn ?_); intro a w h
      change Code.wp _ _ _ _ _
      refine cond_false h rfl ?_
      refine gC h (zk (zs (zr (zd rfl mr Tryz.isAgg49 Tryz.sizeOf49 (rd_10_0_10 _ _ _ _ _ _ _ _ _ _) ?_)))); clear h; intro a w h
      refine gL h (zd rfl mr Tryz.isAgg49 Tryz.sizeOf49 (rd_10_0_10 _ _ _ _ _ _ _ _ _ _) ?_); clear h; intro a w h
      refine gL h (zd rfl mr Tryz.isAgg49 Tryz.sizeOf49 (rd_10_0_10 _ _ _ _ _ _ _ _ _ _) ?_); clear h; intro a w h
      refine gL h (zv [_, _, _] rfl Tryz.call47 (C_Area (ptv qa) (ptv qb) (ptv qc) 4 hKa hKb hKc (by decide)) (zz zeroQ fun b20 => zt' rfl rfl (st_5_0_5 _ _ _ _ _ _ _ _ _ _) uu Tryz.sizeOf44 rfl nb rfl ?_)); clear h; intro a w h
      refine gL h (zn (zs (zs (yD mixed_YtealgpgmbflilaaGreatDoor [2, 3, 4, 6, 0, 1, 5, 7, 8, 9, 10, 11, 13, 12, 14, 15, 16] (floatsOK_none (by kernel_rfl)) (yd rfl rfl mr Tryz.isAgg49 Tryz.sizeOf49 (rd_10_0_10 _ _ _ _ _ _ _ _ _ _) ?_))))); clear h
      refine yd rfl rfl mr Tryz.isAgg49 Tryz.sizeOf49 (rd_10_0_10 _ _ _ _ _ _ _ _ _ _) ?_
      refine yd rfl rfl mr Tryz.isAgg49 Tryz.sizeOf49 (rd_10_0_10 _ _ _ _ _ _ _ _ _ _) ?_
      refine yd rfl rfl mr Tryz.isAgg44 Tryz.sizeOf44 (rd_5_0_5 _ _ _ _ _) ?_
      refine yv [_] rfl rfl Tryz.call44 (C_QInt _ (by omega) (by omega)) ?_
      have hl111 := lenQ_int (1) (by omega) (by omega)
      refine yf [_] rfl rfl Tryz.call43 (C_one) ?_; rintro v112 Ψ112 ⟨ad112, c112, rfl, rfl⟩
      refine yw [_, _, _, _] rfl rfl Tryz.call46 (C_Tri (norm p1) _ _ 1 4 4 p1_Pq (by decide) (ptv qa) (ptv qb) (ptv qc) hKa hKb hKc (by decide) (by decide)) (yp rfl (.binOp rfl rfl (fun _ => run_neQ _ _ (triQ (norm p1) (ptv qa) (ptv qb) (ptv qc)) (twQ (ptv qa) (ptv qb) (ptv qc) / ((2 : Int) : Rat)) _)) ?_)
      refine head_bool (fun hc118  => (by exfalso; exact clN (parts3 (ptv qa) (ptv qb) (ptv qc)) hc118)) (fun hc118  => ?_)
      refine yp rfl (.move rfl) (yg rfl rfl rfl rfl mr Tryz.isAgg49 Tryz.sizeOf49 (rd_10_0_10 _ _ _ _ _ _ _ _ _ _) ?_)
      refine yg rfl rfl rfl rfl mr Tryz.isAgg49 Tryz.sizeOf49 (rd_10_0_10 _ _ _ _ _ _ _ _ _ _) ?_
      refine yg rfl rfl rfl rfl mr Tryz.isAgg49 Tryz.sizeOf49 (rd_10_0_10 _ _ _ _ _ _ _ _ _ _) ?_
      refine yg rfl rfl rfl rfl mr Tryz.isAgg44 Tryz.sizeOf44 (rd_5_0_5 _ _ _ _ _) ?_
      refine head_callVG rfl rfl rfl (by kernel_rfl) (vs := [_, _, _]) rfl Tryz.call47 (C_Area (ptv qb) (ptv qa) (ptv qc) 4 hKb hKa hKc (by decide)) (by decide) ?_
      refine head_callVG rfl rfl rfl (by kernel_rfl) (vs := [_]) rfl Tryz.call32 (C_QNeg _) (by decide) ?_
      have hl125 := lenQ_neg (twQ (ptv qa) (ptv qb) (ptv qc) / ((2 : Int) : Rat))
      refine yq rfl rfl rfl (.binOp rfl rfl (fun _ => run_neQ _ _ (twQ (ptv qb) (ptv qa) (ptv qc) / ((2 : Int) : Rat)) (-(twQ (ptv qa) (ptv qb) (ptv qc) / ((2 : Int) : Rat))) _)) ?_
      refine head_bool (fun hc126  => (by exfalso; exact clN (parts4 (ptv qa) (ptv qb) (ptv qc)) hc126)) (fun hc126  => ?_)
      refine yp rfl (.pickF rfl rfl) (yn ?_); intro a w h
      change Code.wp _ _ _ _ _
      refine cond_false h rfl ?_
      refine gC h (zk (zs (yD mixed_YtealgpgmbflilaaGreatDoor [0, 1, 2, 3, 5, 6, 7, 8, 4, 9, 10, 11, 12, 13] (floatsOK_of ⟨.inl rfl, .inl rfl, .inl rfl, .inl rfl, .inl rfl, .inl rfl, .inl rfl, .inl rfl, .inl rfl, .inl rfl, .inr ⟨21, 44, _, _, _, rfl, rfl, by decide, _, zeroQ⟩, .inr ⟨22, 44, _, _, _, rfl, rfl, by decide, _, zeroQ⟩, .inl rfl, .inl rfl, trivial⟩) (yp rfl (.indexAddr rfl rfl (ixc_49_0 _ _)) (yd rfl rfl mr Tryz.isAgg44 Tryz.sizeOf44 (rd_10_0_5 _ _ _ _ _ _ _ _ _ _) ?_))))); clear h
      refine yp rfl (.indexAddr rfl rfl (ixc_49_0 _ _)) (yd rfl rfl mr Tryz.isAgg44 Tryz.sizeOf44 (rd_10_0_5 _ _ _ _ _ _ _ _ _ _) ?_)
      refine yp rfl (.indexAddr rfl rfl (ixc_49_1 _ _)) (yd rfl rfl mr Tryz.isAgg44 Tryz.sizeOf44 (rd_10_5_5 _ _ _ _ _ _ _ _ _ _) ?_)
      refine yp rfl (.indexAddr rfl rfl (ixc_49_1 _ _)) (yd rfl rfl mr Tryz.isAgg44 Tryz.sizeOf44 (rd_10_5_5 _ _ _ _ _ _ _ _ _ _) ?_)
      refine yv [_, _] rfl rfl Tryz.call31 (C_QSub _ _ (by omega) (by omega)) ?_
      have hl132 := lenQ_sub ((ptv qb).1) ((ptv qa).1)
      refine yv [_, _] rfl rfl Tryz.call31 (C_QSub _ _ (by omega) (by omega)) ?_
      have hl137 := lenQ_sub ((ptv qb).2) ((ptv qa).2)
      refine yz rfl zeroQ fun b21 => yz rfl zeroQ fun b22 => yt rfl rfl rfl (st_5_0_5 _ _ _ _ _ _ _ _ _ _) uu Tryz.sizeOf44 rfl nb rfl ?_
      refine yt rfl rfl rfl (st_5_0_5 _ _ _ _ _ _ _ _ _ _) uu Tryz.sizeOf44 rfl nb rfl ?_
      refine yn (zs (yD mixed_YtealgpgmbflilaaGreatDoor [0, 1, 2, 3, 5, 6, 7, 8, 4, 9, 10, 11, 12, 13] (floatsOK_of ⟨.inl rfl, .inl rfl, .inl rfl, .inl rfl, .inl rfl, .inl rfl, .inl rfl, .inl rfl, .inl rfl, .inl rfl, .inr ⟨23, 44, _, _, _, rfl, rfl, by decide, _, zeroQ⟩, .inr ⟨24, 44, _, _, _, rfl, rfl, by decide, _, zeroQ⟩, .inl rfl, .inl rfl, trivial⟩) (yp rfl (.indexAddr rfl rfl (ixc_49_0 _ _)) (yd rfl rfl mr Tryz.isAgg44 Tryz.sizeOf44 (rd_10_0_5 _ _ _ _ _ _ _ _ _ _) ?_))))
      refine yp rfl (.indexAddr rfl rfl (ixc_49_0 _ _)) (yd rfl rfl mr Tryz.isAgg44 Tryz.sizeOf44 (rd_10_0_5 _ _ _ _ _ _ _ _ _ _) ?_)
      refine yp rfl (.indexAddr rfl rfl (ixc_49_1 _ _)) (yd rfl rfl mr Tryz.isAgg44 Tryz.sizeOf44 (rd_10_5_5 _ _ _ _ _ _ _ _ _ _) ?_)
      refine yp rfl (.indexAddr rfl rfl (ixc_49_1 _ _)) (yd rfl rfl mr Tryz.isAgg44 Tryz.sizeOf44 (rd_10_5_5 _ _ _ _ _ _ _ _ _ _) ?_)
      refine yv [_, _] rfl rfl Tryz.call31 (C_QSub _ _ (by omega) (by omega)) ?_
      have hl142 := lenQ_sub ((ptv qc).1) ((ptv qa).1)
      refine yv [_, _] rfl rfl Tryz.call31 (C_QSub _ _ (by omega) (by omega)) ?_
      have hl147 := lenQ_sub ((ptv qc).2) ((ptv qa).2)
      refine yz rfl zeroQ fun b23 => yz rfl zeroQ fun b24 => yt rfl rfl rfl (st_5_0_5 _ _ _ _ _ _ _ _ _ _) uu Tryz.sizeOf44 rfl nb rfl ?_
      refine yt rfl rfl rfl (st_5_0_5 _ _ _ _ _ _ _ _ _ _) uu Tryz.sizeOf44 rfl nb rfl ?_
      refine yn (zs (zr (zm rfl (zd rfl mr Tryz.isAgg44 Tryz.sizeOf44 (rd_5_0_5 _ _ _ _ _) ?_)))); intro a w h
      refine gL h (zd rfl mr Tryz.isAgg44 Tryz.sizeOf44 (rd_5_0_5 _ _ _ _ _) ?_); clear h; intro a w h
      refine gL h (zp (.indexAddr rfl rfl (ixc_49_0 _ _)) (zd rfl mr Tryz.isAgg44 Tryz.sizeOf44 (rd_10_0_5 _ _ _ _ _ _ _ _ _ _) ?_)); clear h; intro a w h
      refine gL h (zd rfl mr Tryz.isAgg44 Tryz.sizeOf44 (rd_5_0_5 _ _ _ _ _) ?_); clear h; intro a w h
      refine gL h (zd rfl mr Tryz.isAgg44 Tryz.sizeOf44 (rd_5_0_5 _ _ _ _ _) ?_); clear h; intro a w h
      refine gL h (zp (.indexAddr rfl rfl (ixc_49_1 _ _)) (zd rfl mr Tryz.isAgg44 Tryz.sizeOf44 (rd_10_5_5 _ _ _ _ _ _ _ _ _ _) ?_)); clear h; intro a w h
      refine gL h (zf [_, _, _, _, _, _, _] rfl Tryz.call48 (C_Shift G _ _ 4 31 hgx ((ptv qb).1 - (ptv qa).1) ((ptv qc).1 - (ptv qa).1) (ptv qa).1 ((ptv qb).2 - (ptv qa).2) ((ptv qc).2 - (ptv qa).2) (ptv qa).2 9 (by decide) (by omega) (by omega) (by omega) (by omega) (by omega) (by omega) (by decide) (by decide)) ?_); clear h; rintro v157 Ψ157 ⟨ad157, c157, rfl, rfl⟩ a w h
      refine gL h (zv [_, _] rfl Tryz.call49 (C_lat 0 0 (by decide) (by decide) (by decide) (by decide)) (zv [_, _] rfl Tryz.call49 (C_lat 1 0 (by decide) (by decide) (by decide) (by decide)) (zv [_, _] rfl Tryz.call49 (C_lat 0 1 (by decide) (by decide) (by decide) (by decide)) (zw [_, _, _, _] rfl Tryz.call46 (C_Tri (norm (shL G ((ptv qb).1 - (ptv qa).1) ((ptv qc).1 - (ptv qa).1) (ptv qa).1 ((ptv qb).2 - (ptv qa).2) ((ptv qc).2 - (ptv qa).2) (ptv qa).2)) _ _ 4 (KS 4 31 9) 2 (Pq.triS hgx (by decide) hKa hKb hKc) (by decide) (zpt 0 0) (zpt 1 0) (zpt 0 1) (zpt_K 0 0 (by decide)) (zpt_K 1 0 (by decide)) (zpt_K 0 1 (by decide)) (by decide) (by decide +kernel)) ?_)))); clear h; intro a w h
      have hlU : lenQ (triQ (norm (shL G ((ptv qb).1 - (ptv qa).1) ((ptv qc).1 - (ptv qa).1) (ptv qa).1 ((ptv qb).2 - (ptv qa).2) ((ptv qc).2 - (ptv qa).2) (ptv qa).2)) (zpt 0 0) (zpt 1 0) (zpt 0 1)) ≤ 1000000 := Nat.le_trans (lenQ_tri (Pq.triS hgx (by decide) hKa hKb hKc) (by decide) (zpt_K 0 0 (by decide)) (zpt_K 1 0 (by decide)) (zpt_K 0 1 (by decide))) (by decide +kernel)
      refine gL h (zz zeroQ fun b25 => zt' rfl rfl (st_5_0_5 _ _ _ _ _ _ _ _ _ _) uu Tryz.sizeOf44 rfl nb rfl ?_); clear h; intro a w h
      refine gL h (zn (zs (yD mixed_YtealgpgmbflilaaGreatDoor [0, 2, 5, 1, 3, 4, 6, 7, 8, 9, 10] (floatsOK_none (by kernel_rfl)) (yd rfl rfl mr Tryz.isAgg44 Tryz.sizeOf44 (rd_5_0_5 _ _ _ _ _) ?_)))); clear h
      refine yd rfl rfl mr Tryz.isAgg44 Tryz.sizeOf44 (rd_5_0_5 _ _ _ _ _) ?_
      refine yd rfl rfl mr Tryz.isAgg44 Tryz.sizeOf44 (rd_5_0_5 _ _ _ _ _) ?_
      refine yv [_] rfl rfl Tryz.call44 (C_QInt _ (by omega) (by omega)) ?_
      have hl163 := lenQ_int (2) (by omega) (by omega)
      refine yv [_, _] rfl rfl Tryz.call30 (C_QMul _ _ (by omega) (by omega)) ?_
      have hl165 := lenQ_mul (((2 : Int) : Rat)) (twQ (ptv qa) (ptv qb) (ptv qc) / ((2 : Int) : Rat))
      refine yv [_, _] rfl rfl Tryz.call30 (C_QMul _ _ (by omega) (by omega)) ?_
      have hl166 := lenQ_mul (triQ (norm (shL G ((ptv qb).1 - (ptv qa).1) ((ptv qc).1 - (ptv qa).1) (ptv qa).1 ((ptv qb).2 - (ptv qa).2) ((ptv qc).2 - (ptv qa).2) (ptv qa).2)) (zpt 0 0) (zpt 1 0) (zpt 0 1)) ((((2 : Int) : Rat)) * (twQ (ptv qa) (ptv qb) (ptv qc) / ((2 : Int) : Rat)))
      refine yp rfl (.binOp rfl rfl (fun _ => run_eqQ _ _ ((triQ (norm (shL G ((ptv qb).1 - (ptv qa).1) ((ptv qc).1 - (ptv qa).1) (ptv qa).1 ((ptv qb).2 - (ptv qa).2) ((ptv qc).2 - (ptv qa).2) (ptv qa).2)) (zpt 0 0) (zpt 1 0) (zpt 0 1)) * ((((2 : Int) : Rat)) * (twQ (ptv qa) (ptv qb) (ptv qc) / ((2 : Int) : Rat)))) (triQ G (ptv qa) (ptv qb) (ptv qc)) _)) ?_
      refine head_bool (fun hc168  => ?_) (fun hc168  => (by exfalso; exact clE (parts5 G (ptv qa) (ptv qb) (ptv qc)) hc168))
      refine yp rfl (.move rfl) ?_
      refine head_callVG rfl rfl rfl (by kernel_rfl) (vs := []) rfl Tryz.call15 (C_works9) (by decide) ?_
      refine yp rfl (.pickT rfl rfl) (yp rfl (.assign rfl) (yn (zt ?_))); intro a w h
      refine retV h (results1 h rfl (.tmp rfl)) ?_
      rfl
end Go.Proofs.YtealgpgmbflilaaGreatDoor
