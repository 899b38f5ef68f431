/- Written by a program of ours (gen.py) out of short specifications. By an AI agent. -/
import Derived.Test.YtealgpgmbflilaaGreatDoorLaw08c
set_option linter.unusedVariables false
set_option linter.unusedSimpArgs false
set_option maxRecDepth 4000
namespace Go.Proofs.YtealgpgmbflilaaGreatDoor
open Go Go.Proofs Go.Fx
attribute [local irreducible] Oper.wp Code.wp wpList Fx.Head wpOp

theorem ring_len {G H : List Tm} (h : G = [] ∨ H = []) (hc : (((norm (mulL G H)).length : Int) == 0) = false) : False := by
  have e : norm (mulL G H) = [] := by
    rcases h with h | h
    · rw [h]; exact mul_nil_l H
    · rw [h]; exact mul_nil_r G
  rw [e] at hc; exact absurd hc (by decide)
theorem ring_deg {G H : List Tm} (hG : Nrm G) (hH : Nrm H) (h1 : G ≠ []) (h2 : H ≠ []) : degN (norm (norm (mulL G H))) = degN (norm G) + degN (norm H) := by
  rw [norm_norm, norm_id hG, norm_id hH]; exact degN_mul hG hH h1 h2
theorem nrm_of {l G : List Tm} (h : norm l = G) : Nrm G := h ▸ norm_nrm l
theorem lenQ_ev {d K Kx : Nat} {p : List Tm} (hq : Pq d K p) (hd : d ≤ 12) {x y : Rat} (hx : lenQ x ≤ Kx) (hy : lenQ y ≤ Kx) : lenQ (evP p x y) ≤ 2 + 91 * (K + (4 + 12 * Kx) + 1) := by
  rw [← at_ev x y ((DL_norm hq.deg).mono hd)]
  have h1 := lenQ_linF (φ := PWf x y) (Kf := 4 + 12 * Kx) (norm p).length (Nat.le_refl _) hq.nsz (fun t ht => lenQ_PWf hx hy t.i t.j (by have := (DL_norm hq.deg) t ht; omega))
  rw [List.take_length] at h1
  have h2 := Nat.mul_le_mul_right (K + (4 + 12 * Kx) + 1) (hq.n91 hd)
  omega

set_option maxHeartbeats 1000000 in
theorem C_PolysRing (l m k : List Ti) (ad ad2 ad3 : Option Addr) (c c2 c3 : Nat) (hokl : ∀ t ∈ l, OkT t) (hokm : ∀ t ∈ m, OkT t) (hokk : ∀ t ∈ k, OkT t) (hln : l.length ≤ 9223372036854775807) (hmn : m.length ≤ 9223372036854775807) (hkn : k.length ≤ 9223372036854775807) (qx qy : Int × Int) (hqx : OkQ qx) (hqy : OkQ qy) : CtrW Tryz.prog 8 [.slice ad l.length c, .slice ad2 m.length c2, .slice ad3 k.length c3, encQ2 qx, encQ2 qy] [Row ad (cellsOf encTi l), Row ad2 (cellsOf encTi m), Row ad3 (cellsOf encTi k)] (.bool true) := by
  have hlx : lenQ (qv qx.1 qx.2) ≤ 4 := lenQ_qvp hqx
  have hly : lenQ (qv qy.1 qy.2) ≤ 4 := lenQ_qvp hqy
  obtain ⟨hx1, hx2, hx3, hx4⟩ := hqx
  obtain ⟨hy1, hy2, hy3, hy4⟩ := hqy
  refine fn_intro Tryz.func8 rfl Tryz.ntmps8 nb ?_
  intro S w0 a hS h
  refine gC h (zs (zr (zx rfl fun b8 => zx rfl fun b9 => za rfl (zn (zs (zs (zr (zm rfl (zp (.builtin [_] rfl (len_slice_22 _ _ _)) (zp (.gtr rfl rfl) ?_)))))))))); clear h; intro a w h
  refine by_bool h (fun hc34 h => ?_) (fun hc34 h => ?_)
  · skip
    refine gL h (zm rfl (zo 35 rfl rfl rfl (zo 35 rfl rfl rfl (zo 35 rfl rfl rfl (zp (.pickT rfl rfl) (zm rfl (zo 40 rfl rfl rfl (zo 40 rfl rfl rfl (zo 40 rfl rfl rfl (zp (.pickT rfl rfl) (zn ?_))))))))))); clear h; intro a w h
    change Code.wp _ _ _ _ _
    refine cond_true h rfl ?_
    refine gC h (zs (zr (zv [] rfl Tryz.call37 (C_works8) (za rfl (zn (zt ?_)))))); clear h; intro a w h
    refine retV h (results1 h rfl (.tmp rfl)) ?_
    rfl
  · skip
    refine gL h (zm rfl (zq 35 rfl rfl (.move rfl) (zq 35 rfl rfl (.builtin [_] rfl (len_slice_22 _ _ _)) (zq 35 rfl rfl (.gtr rfl rfl) ?_)))); clear h; intro a w h
    refine by_bool h (fun hc38 h => ?_) (fun hc38 h => ?_)
    · skip
      refine gL h (zp (.pickF rfl rfl) (zm rfl (zo 40 rfl rfl rfl (zo 40 rfl rfl rfl (zo 40 rfl rfl rfl (zp (.pickT rfl rfl) (zn ?_))))))); clear h; intro a w h
      change Code.wp _ _ _ _ _
      refine cond_true h rfl ?_
      refine gC h (zs (zr (zv [] rfl Tryz.call37 (C_works8) (za rfl (zn (zt ?_)))))); clear h; intro a w h
      refine retV h (results1 h rfl (.tmp rfl)) ?_
      rfl
    · skip
      refine gL h (zp (.pickF rfl rfl) (zm rfl (zq 40 rfl rfl (.move rfl) (zq 40 rfl rfl (.builtin [_] rfl (len_slice_22 _ _ _)) (zq 40 rfl rfl (.gtr rfl rfl) ?_))))); clear h; intro a w h
      refine by_bool h (fun hc43 h => ?_) (fun hc43 h => ?_)
      · skip
        refine gL h (zp (.pickF rfl rfl) (zn ?_)); clear h; intro a w h
        change Code.wp _ _ _ _ _
        refine cond_true h rfl ?_
        refine gC h (zs (zr (zv [] rfl Tryz.call37 (C_works8) (za rfl (zn (zt ?_)))))); clear h; intro a w h
        refine retV h (results1 h rfl (.tmp rfl)) ?_
        rfl
      · skip
        have hll : l.length ≤ 8 := by have := of_decide_eq_false hc34; omega
        have hml : m.length ≤ 8 := by have := of_decide_eq_false hc38; omega
        have hkl : k.length ≤ 8 := by have := of_decide_eq_false hc43; omega
        have hgx := made_Pq (d := 4) hokl hll (by decide) (by decide)
        have hgy := made_Pq (d := 4) hokm hml (by decide) (by decide)
        have hgz := made_Pq (d := 4) hokk hkl (by decide) (by decide)
        refine gL h (zp (.pickF rfl rfl) (zn ?_)); clear h; intro a w h
        change Code.wp _ _ _ _ _
        refine cond_false h rfl ?_
        refine gC h (zk (zs (zr (zm rfl (zf [_, _] rfl Tryz.call26 (C_Made l _ _ 4 8 (by assumption) (by omega) (by omega)) ?_))))); clear h; rintro v47 Ψ47 ⟨ad47, c47, rfl, rfl⟩ a w h
        refine gL h (zm rfl (zf [_, _] rfl Tryz.call26 (C_Made m _ _ 4 8 (by assumption) (by omega) (by omega)) ?_)); clear h; rintro v49 Ψ49 ⟨ad49, c49, rfl, rfl⟩ a w h
        refine gL h (zm rfl (zf [_, _] rfl Tryz.call26 (C_Made k _ _ 4 8 (by assumption) (by omega) (by omega)) ?_)); clear h; rintro v51 Ψ51 ⟨ad51, c51, rfl, rfl⟩ a w h
        obtain ⟨G, hnG⟩ : ∃ G, norm (madeL 4 l) = G := ⟨_, rfl⟩
        rw [hnG] at h hgx
        obtain ⟨H, hnH⟩ : ∃ G, norm (madeL 4 m) = G := ⟨_, rfl⟩
        rw [hnH] at h hgy
        obtain ⟨J, hnJ⟩ : ∃ G, norm (madeL 4 k) = G := ⟨_, rfl⟩
        rw [hnJ] at h hgz
        have he1 : lenQ (evP G (qv qx.1 qx.2) (qv qy.1 qy.2)) ≤ 100000 := Nat.le_trans (lenQ_ev hgx (by decide) hlx hly) (by decide)
        have he2 : lenQ (evP H (qv qx.1 qx.2) (qv qy.1 qy.2)) ≤ 100000 := Nat.le_trans (lenQ_ev hgy (by decide) hlx hly) (by decide)
        refine gL h (za rfl (za rfl (za rfl (zn (zs (zr (zm rfl (zm rfl (zf [_, _] rfl Tryz.call38 (C_pMulF G H _ _ _ _ 4 4 41 41 hgx hgy (by decide) (by decide) (by decide)) ?_))))))))); clear h; rintro v55 Ψ55 ⟨ad55, c55, rfl, rfl⟩ a w h
        refine gL h (zm rfl (zp (.extract rfl (fun _ => rfl)) (zp (.extract rfl (fun _ => rfl)) (za rfl (za rfl (zn (zs (zr (zm rfl (zm rfl (zf [_, _] rfl Tryz.call38 (C_pMulF H G _ _ _ _ 4 4 41 41 hgy hgx (by decide) (by decide) (by decide)) ?_))))))))))); clear h; rintro v61 Ψ61 ⟨ad61, c61, rfl, rfl⟩ a w h
        refine gL h (zm rfl (zp (.extract rfl (fun _ => rfl)) (zp (.extract rfl (fun _ => rfl)) (za rfl (za rfl (zn (zs (zr (zm rfl (zm rfl (zf [_, _] rfl Tryz.call38 (C_pMulF H J _ _ _ _ 4 4 41 41 hgy hgz (by decide) (by decide) (by decide)) ?_))))))))))); clear h; rintro v67 Ψ67 ⟨ad67, c67, rfl, rfl⟩ a w h
        refine gL h (zm rfl (zp (.extract rfl (fun _ => rfl)) (zp (.extract rfl (fun _ => rfl)) (za rfl (za rfl (zn (zs (zr (zm rfl (zm rfl (zf [_, _] rfl Tryz.call38 (C_pMulF G J _ _ _ _ 4 4 41 41 hgx hgz (by decide) (by decide) (by decide)) ?_))))))))))); clear h; rintro v73 Ψ73 ⟨ad73, c73, rfl, rfl⟩ a w h
        refine gL h (zm rfl (zp (.extract rfl (fun _ => rfl)) (zp (.extract rfl (fun _ => rfl)) (za rfl (za rfl (zn (zs (zr (zm rfl (zm rfl (zf [_, _] rfl Tryz.call38 (C_pMulF (norm (mulL G H)) J _ _ _ _ 8 4 82 41 (hgx.mul hgy (by decide)) hgz (by decide) (by decide) (by decide)) ?_))))))))))); clear h; rintro v79 Ψ79 ⟨ad79, c79, rfl, rfl⟩ a w h
        refine gL h (zm rfl (zp (.extract rfl (fun _ => rfl)) (zp (.extract rfl (fun _ => rfl)) (za rfl (za rfl (zn (zs (zr (zm rfl (zm rfl (zf [_, _] rfl Tryz.call38 (C_pMulF G (norm (mulL H J)) _ _ _ _ 4 8 41 82 hgx (hgy.mul hgz (by decide)) (by decide) (by decide) (by decide)) ?_))))))))))); clear h; rintro v85 Ψ85 ⟨ad85, c85, rfl, rfl⟩ a w h
        refine gL h (zm rfl (zp (.extract rfl (fun _ => rfl)) (zp (.extract rfl (fun _ => rfl)) (za rfl (za rfl (zn (zs (zr (zm rfl (zm rfl (zm rfl (zf [_, _] rfl Tryz.call41 (C_pAddF H J _ _ _ _ 4 4 41 41 hgy hgz (by decide) (by decide) (by decide) (by decide)) ?_)))))))))))); clear h; rintro v92 Ψ92 ⟨ad92, c92, rfl, rfl⟩ a w h
        refine gL h (zf [_, _] rfl Tryz.call38 (C_pMulF G (norm (H ++ J)) _ _ _ _ 4 4 41 84 hgx (hgy.add hgz (by decide) (by decide)) (by decide) (by decide) (by decide)) ?_); clear h; rintro v93 Ψ93 ⟨ad93, c93, rfl, rfl⟩ a w h
        refine gL h (zm rfl (zp (.extract rfl (fun _ => rfl)) (zp (.extract rfl (fun _ => rfl)) (za rfl (za rfl (zn (zs (zs (zr (zm rfl (zp (.neq rfl rfl) ?_))))))))))); clear h; intro a w h
        refine by_bool h (fun hc97 h => (by exfalso; exact absurd hc97 (by decide))) (fun hc97 h => ?_)
        refine gL h (zm rfl (zq 98 rfl rfl (.move rfl) (zq 98 rfl rfl (.neq rfl rfl) ?_))); clear h; intro a w h
        refine by_bool h (fun hc100 h => (by exfalso; exact absurd hc100 (by decide))) (fun hc100 h => ?_)
        refine gL h (zp (.pickF rfl rfl) (zm rfl (zq 102 rfl rfl (.move rfl) (zq 102 rfl rfl (.move rfl) ?_)))); clear h; intro a w h
        refine wpl_guard 102 h rfl rfl (op_callW h (vs := [_, _]) rfl Tryz.call40 (C_pSame (norm (mulL G H)) (norm (mulL H G)) _ _ _ _ 8 8 82 82 (hgx.mul hgy (by decide)) (hgy.mul hgx (by decide)) (by decide) (by decide) (by decide) (by decide)) (by simp) (by decide) ?_); clear h; intro a w h
        refine gL h (zq 102 rfl rfl (.unOp rfl (un_not _)) ?_); clear h; intro a w h
        refine by_bool h (fun hc106 h => (by exfalso; exact clN (ring_comm G H) hc106)) (fun hc106 h => ?_)
        refine gL h (zp (.pickF rfl rfl) (zm rfl (zq 108 rfl rfl (.move rfl) (zq 108 rfl rfl (.move rfl) ?_)))); clear h; intro a w h
        refine wpl_guard 108 h rfl rfl (op_callW h (vs := [_, _]) rfl Tryz.call40 (C_pSame (norm (mulL (norm (mulL G H)) J)) (norm (mulL G (norm (mulL H J)))) _ _ _ _ 12 12 123 123 ((hgx.mul hgy (by decide)).mul hgz (by decide)) (hgx.mul (hgy.mul hgz (by decide)) (by decide)) (by decide) (by decide) (by decide) (by decide)) (by simp) (by decide) ?_); clear h; intro a w h
        refine gL h (zq 108 rfl rfl (.unOp rfl (un_not _)) ?_); clear h; intro a w h
        refine by_bool h (fun hc112 h => (by exfalso; exact clN (ring_assoc G H J) hc112)) (fun hc112 h => ?_)
        refine gL h (zp (.pickF rfl rfl) (zm rfl (zq 114 rfl rfl (.move rfl) (zq 114 rfl rfl (.move rfl) (zq 114 rfl rfl (.move rfl) ?_))))); clear h; intro a w h
        refine wpl_guard 114 h rfl rfl (op_call h (vs := [_, _]) rfl Tryz.call41 (C_pAddF (norm (mulL G H)) (norm (mulL G J)) _ _ _ _ 8 8 82 82 (hgx.mul hgy (by decide)) (hgx.mul hgz (by decide)) (by decide) (by decide) (by decide) (by decide)) (by simp) (by decide) ?_); clear h; rintro v118 Ψ118 a w ⟨ad118, c118, rfl, rfl⟩ h
        refine wpl_guard 114 h rfl rfl (op_callW h (vs := [_, _]) rfl Tryz.call40 (C_pSame (norm (mulL G (norm (H ++ J)))) (norm (norm (mulL G H) ++ norm (mulL G J))) _ _ _ _ 8 8 125 166 (hgx.mul (hgy.add hgz (by decide) (by decide)) (by decide)) ((hgx.mul hgy (by decide)).add (hgx.mul hgz (by decide)) (by decide) (by decide)) (by decide) (by decide) (by decide) (by decide)) (by simp) (by decide) ?_); clear h; intro a w h
        refine gL h (zq 114 rfl rfl (.unOp rfl (un_not _)) ?_); clear h; intro a w h
        refine by_bool h (fun hc120 h => (by exfalso; exact clN (ring_dist G H J) hc120)) (fun hc120 h => ?_)
        refine gL h (zp (.pickF rfl rfl) (zm rfl (zq 122 rfl rfl (.move rfl) (zq 122 rfl rfl (.move rfl) ?_)))); clear h; intro a w h
        refine wpl_guard 122 h rfl rfl (op_call h (vs := [_, _]) rfl Tryz.call41 (C_pAddF G H _ _ _ _ 4 4 41 41 hgx hgy (by decide) (by decide) (by decide) (by decide)) (by simp) (by decide) ?_); clear h; rintro v125 Ψ125 a w ⟨ad125, c125, rfl, rfl⟩ h
        refine gL h (zq 122 rfl rfl (.move rfl) (zq 122 rfl rfl (.move rfl) ?_)); clear h; intro a w h
        refine wpl_guard 122 h rfl rfl (op_call h (vs := [_, _]) rfl Tryz.call41 (C_pAddF H G _ _ _ _ 4 4 41 41 hgy hgx (by decide) (by decide) (by decide) (by decide)) (by simp) (by decide) ?_); clear h; rintro v128 Ψ128 a w ⟨ad128, c128, rfl, rfl⟩ h
        refine wpl_guard 122 h rfl rfl (op_callW h (vs := [_, _]) rfl Tryz.call40 (C_pSame (norm (G ++ H)) (norm (H ++ G)) _ _ _ _ 4 4 84 84 (hgx.add hgy (by decide) (by decide)) (hgy.add hgx (by decide) (by decide)) (by decide) (by decide) (by decide) (by decide)) (by simp) (by decide) ?_); clear h; intro a w h
        refine gL h (zq 122 rfl rfl (.unOp rfl (un_not _)) ?_); clear h; intro a w h
        refine by_bool h (fun hc130 h => (by exfalso; exact clN (ring_addc G H) hc130)) (fun hc130 h => ?_)
        refine gL h (zp (.pickF rfl rfl) (zm rfl (zq 132 rfl rfl (.move rfl) (zq 132 rfl rfl (.move rfl) ?_)))); clear h; intro a w h
        refine wpl_guard 132 h rfl rfl (op_call h (vs := [_, _]) rfl Tryz.call41 (C_pAddF G H _ _ _ _ 4 4 41 41 hgx hgy (by decide) (by decide) (by decide) (by decide)) (by simp) (by decide) ?_); clear h; rintro v135 Ψ135 a w ⟨ad135, c135, rfl, rfl⟩ h
        refine gL h (zq 132 rfl rfl (.move rfl) ?_); clear h; intro a w h
        refine wpl_guard 132 h rfl rfl (op_call h (vs := [_, _]) rfl Tryz.call50 (C_pSubF (norm (G ++ H)) H _ _ _ _ 4 4 84 41 (hgx.add hgy (by decide) (by decide)) hgy (by decide) (by decide) (by decide) (by decide)) (by simp) (by decide) ?_); clear h; rintro v137 Ψ137 a w ⟨ad137, c137, rfl, rfl⟩ h
        refine gL h (zq 132 rfl rfl (.move rfl) ?_); clear h; intro a w h
        refine wpl_guard 132 h rfl rfl (op_callW h (vs := [_, _]) rfl Tryz.call40 (C_pSame (norm (norm (G ++ H) ++ scaleL ((-1 : Int) : Rat) H)) G _ _ _ _ 4 4 130 41 ((hgx.add hgy (by decide) (by decide)).sub' hgy (by decide) (by decide)) hgx (by decide) (by decide) (by decide) (by decide)) (by simp) (by decide) ?_); clear h; intro a w h
        refine gL h (zq 132 rfl rfl (.unOp rfl (un_not _)) ?_); clear h; intro a w h
        refine by_bool h (fun hc140 h => (by exfalso; exact clN (ring_sub G H) hc140)) (fun hc140 h => ?_)
        refine gL h (zp (.pickF rfl rfl) (zm rfl (zq 142 rfl rfl (.move rfl) (zq 142 rfl rfl (.move rfl) ?_)))); clear h; intro a w h
        refine wpl_guard 142 h rfl rfl (op_call h (vs := [_, _]) rfl Tryz.call50 (C_pSubF G G _ _ _ _ 4 4 41 41 hgx hgx (by decide) (by decide) (by decide) (by decide)) (by simp) (by decide) ?_); clear h; rintro v145 Ψ145 a w ⟨ad145, c145, rfl, rfl⟩ h
        refine wpl_guard 142 h rfl rfl (op_callW h (vs := [_]) rfl Tryz.call42 (C_Degree (norm (G ++ scaleL ((-1 : Int) : Rat) G)) _ _ 4 87 (hgx.sub' hgx (by decide) (by decide)) (by decide) (by decide)) (by simp) (by decide) ?_); clear h; intro a w h
        refine gL h (zq 142 rfl rfl (.neq rfl rfl) ?_); clear h; intro a w h
        refine by_bool h (fun hc147 h => (by exfalso; rw [ring_self, norm_nil] at hc147; exact absurd hc147 (by decide))) (fun hc147 h => ?_)
        refine gL h (zp (.pickF rfl rfl) (zn ?_)); clear h; intro a w h
        change Code.wp _ _ _ _ _
        refine cond_false h rfl ?_
        refine gC h (zk (zs (yD mixed_YtealgpgmbflilaaGreatDoor [0, 2, 1, 3, 4, 5, 6, 7] (floatsOK_of ⟨.inl rfl, .inl rfl, .inl rfl, .inl rfl, .inr ⟨28, 44, _, _, _, rfl, rfl, by decide, _, zeroQ⟩, .inr ⟨29, 44, _, _, _, rfl, rfl, by decide, _, zeroQ⟩, .inl rfl, .inl rfl, trivial⟩) (yd rfl rfl mr Tryz.isAgg25 Tryz.sizeOf25 (rd_2_0_2 _ _) ?_)))); clear h
        refine yd rfl rfl mr Tryz.isAgg25 Tryz.sizeOf25 (rd_2_0_2 _ _) ?_
        refine yv [_] rfl rfl Tryz.call28 (C_qOf qx.1 qx.2 (by omega) (by omega) (by omega) (by omega)) ?_
        have hl150 := lenQ_qv qx.1 qx.2 (by omega) (by omega) (by omega) (by omega)
        refine yv [_] rfl rfl Tryz.call28 (C_qOf qy.1 qy.2 (by omega) (by omega) (by omega) (by omega)) ?_
        have hl152 := lenQ_qv qy.1 qy.2 (by omega) (by omega) (by omega) (by omega)
        refine yz rfl zeroQ fun b28 => yz rfl zeroQ fun b29 => yt rfl rfl rfl (st_5_0_5 _ _ _ _ _ _ _ _ _ _) uu Tryz.sizeOf44 rfl nb rfl ?_
        refine yt rfl rfl rfl (st_5_0_5 _ _ _ _ _ _ _ _ _ _) uu Tryz.sizeOf44 rfl nb rfl ?_
        refine yn (zs (yD mixed_YtealgpgmbflilaaGreatDoor [0, 1, 2, 4, 5, 6, 3, 7, 8, 9, 10, 11] (floatsOK_of ⟨.inl rfl, .inl rfl, .inl rfl, .inl rfl, .inl rfl, .inl rfl, .inl rfl, .inl rfl, .inr ⟨30, 44, _, _, _, rfl, rfl, by decide, _, zeroQ⟩, .inr ⟨31, 44, _, _, _, rfl, rfl, by decide, _, zeroQ⟩, .inl rfl, .inl rfl, trivial⟩) (yp rfl (.move rfl) (yd rfl rfl mr Tryz.isAgg44 Tryz.sizeOf44 (rd_5_0_5 _ _ _ _ _) ?_))))
        refine yd rfl rfl mr Tryz.isAgg44 Tryz.sizeOf44 (rd_5_0_5 _ _ _ _ _) ?_
        refine yp rfl (.move rfl) (yd rfl rfl mr Tryz.isAgg44 Tryz.sizeOf44 (rd_5_0_5 _ _ _ _ _) ?_)
        refine yd rfl rfl mr Tryz.isAgg44 Tryz.sizeOf44 (rd_5_0_5 _ _ _ _ _) ?_
        refine yw [_, _, _] rfl rfl Tryz.call51 (C_At G _ _ 4 41 4 hgx (by decide) (qv qx.1 qx.2) (qv qy.1 qy.2) (by omega) (by omega) (by decide) (by decide)) (yw [_, _, _] rfl rfl Tryz.call51 (C_At H _ _ 4 41 4 hgy (by decide) (qv qx.1 qx.2) (qv qy.1 qy.2) (by omega) (by omega) (by decide) (by decide)) (yz rfl zeroQ fun b30 => yz rfl zeroQ fun b31 => yt rfl rfl rfl (st_5_0_5 _ _ _ _ _ _ _ _ _ _) uu Tryz.sizeOf44 rfl nb rfl ?_))
        refine yt rfl rfl rfl (st_5_0_5 _ _ _ _ _ _ _ _ _ _) uu Tryz.sizeOf44 rfl nb rfl ?_
        refine yn (zs (zs (yD mixed_YtealgpgmbflilaaGreatDoor [0, 1, 2, 4, 5, 3, 6, 7, 8, 9, 10, 12, 13, 15, 16, 11, 14, 17, 18, 19, 20, 21, 23, 24, 26, 22, 25, 27, 28, 29] (floatsOK_none (by kernel_rfl)) (yp rfl (.move rfl) (yd rfl rfl mr Tryz.isAgg44 Tryz.sizeOf44 (rd_5_0_5 _ _ _ _ _) ?_)))))
        refine yd rfl rfl mr Tryz.isAgg44 Tryz.sizeOf44 (rd_5_0_5 _ _ _ _ _) ?_
        refine yd rfl rfl mr Tryz.isAgg44 Tryz.sizeOf44 (rd_5_0_5 _ _ _ _ _) ?_
        refine yd rfl rfl mr Tryz.isAgg44 Tryz.sizeOf44 (rd_5_0_5 _ _ _ _ _) ?_
        refine yw [_, _, _] rfl rfl Tryz.call51 (C_At (norm (mulL G H)) _ _ 8 82 4 (hgx.mul hgy (by decide)) (by decide) (qv qx.1 qx.2) (qv qy.1 qy.2) (by omega) (by omega) (by decide) (by decide)) (yv [_, _] rfl rfl Tryz.call30 (C_QMul _ _ (by omega) (by omega)) ?_)
        have hl167 := lenQ_mul (evP G (qv qx.1 qx.2) (qv qy.1 qy.2)) (evP H (qv qx.1 qx.2) (qv qy.1 qy.2))
        refine yp rfl (.binOp rfl rfl (fun _ => run_neQ _ _ (evP (norm (mulL G H)) (qv qx.1 qx.2) (qv qy.1 qy.2)) ((evP G (qv qx.1 qx.2) (qv qy.1 qy.2)) * (evP H (qv qx.1 qx.2) (qv qy.1 qy.2))) _)) ?_
        refine head_bool (fun hc168  => (by exfalso; exact clN (ring_at_mul G H _ _) hc168)) (fun hc168  => ?_)
        refine yp rfl (.move rfl) (yq rfl rfl rfl (.move rfl) (yq rfl rfl rfl (.move rfl) (yg rfl rfl rfl rfl mr Tryz.isAgg44 Tryz.sizeOf44 (rd_5_0_5 _ _ _ _ _) ?_)))
        refine yg rfl rfl rfl rfl mr Tryz.isAgg44 Tryz.sizeOf44 (rd_5_0_5 _ _ _ _ _) ?_
        refine yg rfl rfl rfl rfl mr Tryz.isAgg44 Tryz.sizeOf44 (rd_5_0_5 _ _ _ _ _) ?_
        refine yg rfl rfl rfl rfl mr Tryz.isAgg44 Tryz.sizeOf44 (rd_5_0_5 _ _ _ _ _) ?_
        refine head_callG rfl rfl rfl (by kernel_rfl) (vs := [_, _]) rfl Tryz.call41 (C_pAddF G H _ _ _ _ 4 4 41 41 hgx hgy (by decide) (by decide) (by decide) (by decide)) (by simp) (by decide) ?_; rintro v172 Ψ172 ⟨ad172, c172, rfl, rfl⟩
        refine head_callWG rfl rfl rfl (by kernel_rfl) (vs := [_, _, _]) rfl Tryz.call51 (C_At (norm (G ++ H)) _ _ 4 84 4 (hgx.add hgy (by decide) (by decide)) (by decide) (qv qx.1 qx.2) (qv qy.1 qy.2) (by omega) (by omega) (by decide) (by decide)) (by simp) (by decide) ?_
        refine head_callVG rfl rfl rfl (by kernel_rfl) (vs := [_, _]) rfl Tryz.call29 (C_QAdd _ _ (by omega) (by omega)) (by decide) ?_
        have hl178 := lenQ_add (evP G (qv qx.1 qx.2) (qv qy.1 qy.2)) (evP H (qv qx.1 qx.2) (qv qy.1 qy.2))
        refine yq rfl rfl rfl (.binOp rfl rfl (fun _ => run_neQ _ _ (evP (norm (G ++ H)) (qv qx.1 qx.2) (qv qy.1 qy.2)) ((evP G (qv qx.1 qx.2) (qv qy.1 qy.2)) + (evP H (qv qx.1 qx.2) (qv qy.1 qy.2))) _)) ?_
        refine head_bool (fun hc179  => (by exfalso; exact clN (ring_at_add G H _ _) hc179)) (fun hc179  => ?_)
        refine yp rfl (.pickF rfl rfl) (yp rfl (.move rfl) (yq rfl rfl rfl (.move rfl) (yg rfl rfl rfl rfl mr Tryz.isAgg44 Tryz.sizeOf44 (rd_5_0_5 _ _ _ _ _) ?_)))
        refine yg rfl rfl rfl rfl mr Tryz.isAgg44 Tryz.sizeOf44 (rd_5_0_5 _ _ _ _ _) ?_
        refine yg rfl rfl rfl rfl mr Tryz.isAgg44 Tryz.sizeOf44 (rd_5_0_5 _ _ _ _ _) ?_
        refine head_callG rfl rfl rfl (by kernel_rfl) (vs := [_]) rfl Tryz.call52 (C_NegF G _ _ 4 41 hgx (by decide) (by decide) (by decide)) (by simp) (by decide) ?_; rintro v183 Ψ183 ⟨ad183, c183, rfl, rfl⟩
        refine head_callWG rfl rfl rfl (by kernel_rfl) (vs := [_, _, _]) rfl Tryz.call51 (C_At (norm (scaleL ((-1 : Int) : Rat) G)) _ _ 4 44 4 ((hgx.scale (c := ((-1 : Int) : Rat)) (Kc := 2) (lenQ_int (-1) (by decide) (by decide)) (by decide)).mono (Nat.le_refl _) (by omega)) (by decide) (qv qx.1 qx.2) (qv qy.1 qy.2) (by omega) (by omega) (by decide) (by decide)) (by simp) (by decide) ?_
        refine head_callVG rfl rfl rfl (by kernel_rfl) (vs := [_]) rfl Tryz.call32 (C_QNeg _) (by decide) ?_
        have hl188 := lenQ_neg (evP G (qv qx.1 qx.2) (qv qy.1 qy.2))
        refine yq rfl rfl rfl (.binOp rfl rfl (fun _ => run_neQ _ _ (evP (norm (scaleL ((-1 : Int) : Rat) G)) (qv qx.1 qx.2) (qv qy.1 qy.2)) (-(evP G (qv qx.1 qx.2) (qv qy.1 qy.2))) _)) ?_
        refine head_bool (fun hc189  => (by exfalso; exact clN (ring_at_neg G _ _) hc189)) (fun hc189  => ?_)
        refine yp rfl (.pickF rfl rfl) (yn ?_); intro a w h
        change Code.wp _ _ _ _ _
        refine cond_false h rfl ?_
        refine gC h (zk (zs (zs (zr (zm rfl (zp (.builtin [_] rfl (len_slice_47 _ _ _)) (zp (.eql rfl rfl) ?_))))))); clear h; intro a w h
        refine by_bool h (fun hc193 h => ?_) (fun hc193 h => ?_)
        · skip
          have hz : G = [] ∨ H = [] := .inl (List.eq_nil_of_length_eq_zero (natEq' hc193))
          refine gL h (zm rfl (zo 194 rfl rfl rfl (zo 194 rfl rfl rfl (zo 194 rfl rfl rfl (zp (.pickT rfl rfl) (zn ?_)))))); clear h; intro a w h
          change Code.wp _ _ _ _ _
          refine cond_true h rfl ?_
          refine gC h (zs (zr (zm rfl (zp (.builtin [_] rfl (len_slice_47 _ _ _)) (zp (.eql rfl rfl) ?_))))); clear h; intro a w h
          refine by_bool h (fun hc201 h => ?_) (fun hc201 h => (by exfalso; exact ring_len hz hc201))
          refine gL h (zm rfl ?_); clear h; intro a w h
          refine wpl_guard 202 h rfl rfl (op_callV h (vs := []) rfl Tryz.call37 (C_works8) (by decide) ?_); clear h; intro a w h
          refine gL h (zp (.pickT rfl rfl) (za rfl (zn (zt ?_)))); clear h; intro a w h
          refine retV h (results1 h rfl (.tmp rfl)) ?_
          rfl
        · skip
          have hz1 : G ≠ [] := fun e => natNe' hc193 (by rw [e]; rfl)
          refine gL h (zm rfl (zq 194 rfl rfl (.move rfl) (zq 194 rfl rfl (.builtin [_] rfl (len_slice_47 _ _ _)) (zq 194 rfl rfl (.eql rfl rfl) ?_)))); clear h; intro a w h
          refine by_bool h (fun hc197 h => ?_) (fun hc197 h => ?_)
          · skip
            have hz : G = [] ∨ H = [] := .inr (List.eq_nil_of_length_eq_zero (natEq' hc197))
            refine gL h (zp (.pickF rfl rfl) (zn ?_)); clear h; intro a w h
            change Code.wp _ _ _ _ _
            refine cond_true h rfl ?_
            refine gC h (zs (zr (zm rfl (zp (.builtin [_] rfl (len_slice_47 _ _ _)) (zp (.eql rfl rfl) ?_))))); clear h; intro a w h
            refine by_bool h (fun hc201 h => ?_) (fun hc201 h => (by exfalso; exact ring_len hz hc201))
            refine gL h (zm rfl ?_); clear h; intro a w h
            refine wpl_guard 202 h rfl rfl (op_callV h (vs := []) rfl Tryz.call37 (C_works8) (by decide) ?_); clear h; intro a w h
            refine gL h (zp (.pickT rfl rfl) (za rfl (zn (zt ?_)))); clear h; intro a w h
            refine retV h (results1 h rfl (.tmp rfl)) ?_
            rfl
          · skip
            have hz2 : H ≠ [] := fun e => natNe' hc197 (by rw [e]; rfl)
            refine gL h (zp (.pickF rfl rfl) (zn ?_)); clear h; intro a w h
            change Code.wp _ _ _ _ _
            refine cond_false h rfl ?_
            refine gC h (zk (zs (zr (zm rfl (zw [_] rfl Tryz.call42 (C_Degree (norm (mulL G H)) _ _ 8 82 (hgx.mul hgy (by decide)) (by decide) (by decide)) (zm rfl (zw [_] rfl Tryz.call42 (C_Degree G _ _ 4 41 hgx (by decide) (by decide)) (zm rfl (zw [_] rfl Tryz.call42 (C_Degree H _ _ 4 41 hgy (by decide) (by decide)) ?_))))))))); clear h; intro a w h
            have hd1 := degN_ge (norm G)
            have hd2 := degN_le (DL_norm hgx.deg)
            have hd3 := degN_ge (norm H)
            have hd4 := degN_le (DL_norm hgy.deg)
            refine gL h (zp (.add rfl rfl) (zp (.eql rfl rfl) ?_)); clear h; intro a w h
            refine by_bool h (fun hc212 h => ?_) (fun hc212 h => (by exfalso; rw [ring_deg (nrm_of hnG) (nrm_of hnH) hz1 hz2] at hc212; simp at hc212))
            refine gL h (zm rfl ?_); clear h; intro a w h
            refine wpl_guard 213 h rfl rfl (op_callV h (vs := []) rfl Tryz.call37 (C_works8) (by decide) ?_); clear h; intro a w h
            refine gL h (zp (.pickT rfl rfl) (za rfl (zn (zt ?_)))); clear h; intro a w h
            refine retV h (results1 h rfl (.tmp rfl)) ?_
            rfl
end Go.Proofs.YtealgpgmbflilaaGreatDoor
