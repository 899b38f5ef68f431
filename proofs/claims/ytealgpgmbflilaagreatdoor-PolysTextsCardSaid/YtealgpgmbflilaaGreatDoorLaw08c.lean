/- Written by a program of ours (gen.py) out of short specifications. By an AI agent. -/
import Derived.Test.YtealgpgmbflilaaGreatDoorLaw08b
set_option linter.unusedVariables false
set_option linter.unusedSimpArgs false
set_option maxRecDepth 4000
namespace Go.Proofs.YtealgpgmbflilaaGreatDoor
open Go Go.Proofs Go.Fx
attribute [local irreducible] Oper.wp Code.wp wpList Fx.Head wpOp

theorem clN {p : Prop} [Decidable p] (h : p) (hc : (!decide p) = true) : False := by rw [decide_eq_true h] at hc; cases hc
theorem clE {p : Prop} [Decidable p] (h : p) (hc : decide p = false) : False := absurd h (of_decide_eq_false hc)
theorem Pq.sub' {da db Ka Kb : Nat} {a b : List Tm} (ha : Pq da Ka a) (hb : Pq db Kb b) (h1 : da ≤ 12) (h2 : db ≤ 12) : Pq (max da db) (Ka + Kb + 5) (norm (a ++ scaleL ((-1 : Int) : Rat) b)) :=
  Pq.of_norm (DL_append (ha.deg.mono (Nat.le_max_left _ _)) (DL_scaleL _ (hb.deg.mono (Nat.le_max_right _ _)))) ((ha.hgt.append (hb.hgt.scale (lenQ_int (-1) (by decide) (by decide)))).mono (by omega)) (by omega)
theorem bi_maxm (x : Int) (w : World) (ty : TypeId) (cs : Array Bool) : (Go.builtin .max #[3, 3] ty cs #[.int .i64 (-1), .int .i64 x]).run Tryz.prog w = .ok (.value (.int .i64 (max (-1) x))) w := by
  simp [go_sem] <;> (try rw [Int.max_def]) <;> (try split) <;> (try split) <;> (try omega)

theorem c5_Pq : Pq 12 18 (norm [(⟨0, 0, ((5 : Int) : Rat)⟩ : Tm)]) := (Pq.raw (d := 0) (k := 2) (m := 3) (fun t ht => by rw [List.mem_singleton] at ht; subst ht; decide) (fun t ht => by rw [List.mem_singleton] at ht; subst ht; exact lenQ_int 5 (by decide) (by decide)) (by decide) (by decide)).nrm (by decide) |>.mono (by decide) (by decide)
theorem rule_len {a : List Tm} (h : a = []) (hc : (((a.length : Nat) : Int) != 0) = true) : False := by subst h; exact absurd hc (by decide)

theorem C_PolysRules (l m : List Ti) (ad ad2 : Option Addr) (c c2 : Nat) (hokl : ∀ t ∈ l, OkT t) (hokm : ∀ t ∈ m, OkT t) (hln : l.length ≤ 9223372036854775807) (hmn : m.length ≤ 9223372036854775807) : CtrW Tryz.prog 6 [.slice ad l.length c, .slice ad2 m.length c2] [Row ad (cellsOf encTi l), Row ad2 (cellsOf encTi m)] (.bool true) := by
  refine fn_intro Tryz.func6 rfl Tryz.ntmps6 nb ?_
  intro S w0 a hS h
  refine gC h (zs (zr (za rfl (zn (zs (zs (zr (zm rfl (zp (.builtin [_] rfl (len_slice_22 _ _ _)) (zp (.gtr rfl rfl) ?_)))))))))); clear h; intro a w h
  refine by_bool h (fun hc17 h => ?_) (fun hc17 h => ?_)
  · skip
    refine gL h (zm rfl (zo 18 rfl rfl rfl (zo 18 rfl rfl rfl (zo 18 rfl rfl rfl (zp (.pickT rfl rfl) (zn ?_)))))); clear h; intro a w h
    change Code.wp _ _ _ _ _
    refine cond_true h rfl ?_
    refine gC h (zs (zr (zv [] rfl Tryz.call37 (C_works8) (za rfl (zn (zt ?_)))))); clear h; intro a w h
    refine retV h (results1 h rfl (.tmp rfl)) ?_
    rfl
  · skip
    refine gL h (zm rfl (zq 18 rfl rfl (.move rfl) (zq 18 rfl rfl (.builtin [_] rfl (len_slice_22 _ _ _)) (zq 18 rfl rfl (.gtr rfl rfl) ?_)))); clear h; intro a w h
    refine by_bool h (fun hc21 h => ?_) (fun hc21 h => ?_)
    · skip
      refine gL h (zp (.pickF rfl rfl) (zn ?_)); clear h; intro a w h
      change Code.wp _ _ _ _ _
      refine cond_true h rfl ?_
      refine gC h (zs (zr (zv [] rfl Tryz.call37 (C_works8) (za rfl (zn (zt ?_)))))); clear h; intro a w h
      refine retV h (results1 h rfl (.tmp rfl)) ?_
      rfl
    · skip
      have hll : l.length ≤ 8 := by have := of_decide_eq_false hc17; omega
      have hml : m.length ≤ 8 := by have := of_decide_eq_false hc21; omega
      have hgx := made_Pq (d := 5) hokl hll (by decide) (by decide)
      have hgy := made_Pq (d := 5) hokm hml (by decide) (by decide)
      refine gL h (zp (.pickF rfl rfl) (zn ?_)); clear h; intro a w h
      change Code.wp _ _ _ _ _
      refine cond_false h rfl ?_
      refine gC h (zk (zs (zr (zm rfl (zf [_, _] rfl Tryz.call26 (C_Made l _ _ 5 8 (by assumption) (by omega) (by omega)) ?_))))); clear h; rintro v25 Ψ25 ⟨ad25, c25, rfl, rfl⟩ a w h
      refine gL h (zm rfl (zf [_, _] rfl Tryz.call26 (C_Made m _ _ 5 8 (by assumption) (by omega) (by omega)) ?_)); clear h; rintro v27 Ψ27 ⟨ad27, c27, rfl, rfl⟩ a w h
      obtain ⟨G, hnG⟩ : ∃ G, norm (madeL 5 l) = G := ⟨_, rfl⟩
      rw [hnG] at h hgx
      obtain ⟨H, hnH⟩ : ∃ G, norm (madeL 5 m) = G := ⟨_, rfl⟩
      rw [hnH] at h hgy
      refine gL h (za rfl (za rfl (zn (zs (zr (zm rfl (zm rfl (zf [_, _] rfl Tryz.call38 (C_pMulF G H _ _ _ _ 5 5 41 41 hgx hgy (by decide) (by decide) (by decide)) ?_)))))))); clear h; rintro v31 Ψ31 ⟨ad31, c31, rfl, rfl⟩ a w h
      refine gL h (zm rfl (zp (.extract rfl (fun _ => rfl)) (zp (.extract rfl (fun _ => rfl)) (za rfl (za rfl (zn (zs (zs (zr (za rfl (zn (zb ?_)))))))))))); clear h; intro a w h
      refine wp_loop_inv (fun (i : Nat) a w => i ≤ 2 ∧ St 121 S w0 [(5, .slice ad25 ((G).length) c25), (6, .slice ad27 ((H).length) c27), (7, .slice ad31 ((norm (mulL G H)).length) c31), (9, .int .i64 ((i : Nat) : Int))] [] [Row ad31 (cellsOf encT (norm (mulL G H))), Row ad27 (cellsOf encT (H)), Row ad25 (cellsOf encT (G)), Row ad (cellsOf encTi l), Row ad2 (cellsOf encTi m)] a w) (fun i => 2 - i) 0 (⟨Nat.zero_le _, by exact (h).sub (subL ⟨rfl, rfl, rfl, rfl, trivial⟩)⟩) ?_; clear h
      rintro i a w ⟨hi_i, h⟩
      refine gC h (zs (zs (zr (zm rfl (zp (.lss rfl rfl) (zn ?_)))))); clear h; intro a w h
      change Code.wp _ _ _ _ _
      refine cond_split h rfl (fun hc35 => ?_) (fun hc35 => ?_)
      · skip
        have hlt_i : i < 2 := by have := of_decide_eq_true hc35; omega
        refine gC h (zk (zs (zb (zs (zr (za rfl (zn (zs (zs (zr (zm rfl (zp (.eql rfl rfl) ?_)))))))))))); clear h; intro a w h
        refine by_bool h (fun hc39 h => ?_) (fun hc39 h => ?_)
        · skip
          refine wpList_nil ?_
          change Code.wp _ _ _ _ _
          refine cond_true h rfl ?_
          refine gC h (zr (za rfl (zn (zs (zr (zm rfl (zm rfl ?_))))))); clear h; intro a w h
          refine wpl_plain (op_callx h (fs := []) (cs := []) rfl (vs := [_]) rfl Tryz.call39 (C_DyF (G) _ _ 5 41 hgx (by decide) (by decide)) (by simp) (by decide) ?_); clear h; rintro v43 Ψ43 a w ⟨ad43, c43, rfl, rfl⟩ h
          refine gL h (zm rfl (zf [_, _] rfl Tryz.call38 (C_pMulF (norm (dyL G)) H _ _ _ _ 5 5 42 41 (hgx.dy (by decide)) hgy (by decide) (by decide) (by decide)) ?_)); clear h; rintro v45 Ψ45 ⟨ad45, c45, rfl, rfl⟩ a w h
          refine gL h (zm rfl (zp (.extract rfl (fun _ => rfl)) (zp (.extract rfl (fun _ => rfl)) (za rfl (za rfl (zn (zs (zr (zm rfl (zm rfl (zm rfl ?_))))))))))); clear h; intro a w h
          refine wpl_plain (op_callx h (fs := []) (cs := []) rfl (vs := [_]) rfl Tryz.call39 (C_DyF (H) _ _ 5 41 hgy (by decide) (by decide)) (by simp) (by decide) ?_); clear h; rintro v52 Ψ52 a w ⟨ad52, c52, rfl, rfl⟩ h
          refine gL h (zf [_, _] rfl Tryz.call38 (C_pMulF G (norm (dyL H)) _ _ _ _ 5 5 41 42 hgx (hgy.dy (by decide)) (by decide) (by decide) (by decide)) ?_); clear h; rintro v53 Ψ53 ⟨ad53, c53, rfl, rfl⟩ a w h
          refine gL h (zm rfl (zp (.extract rfl (fun _ => rfl)) (zp (.extract rfl (fun _ => rfl)) (za rfl (za rfl (zn (zs (zr (zm rfl (zm rfl ?_)))))))))); clear h; intro a w h
          refine wpl_plain (op_callx h (fs := []) (cs := []) rfl (vs := [_]) rfl Tryz.call39 (C_DyF (norm (mulL G H)) _ _ 10 82 (hgx.mul hgy (by decide)) (by decide) (by decide)) (by simp) (by decide) ?_); clear h; rintro v58 Ψ58 a w ⟨ad58, c58, rfl, rfl⟩ h
          refine gL h (zm rfl (zm rfl (zf [_, _] rfl Tryz.call41 (C_pAddF (norm (mulL (norm (dyL G)) H)) (norm (mulL G (norm (dyL H)))) _ _ _ _ 10 10 83 83 ((hgx.dy (by decide)).mul hgy (by decide)) (hgx.mul (hgy.dy (by decide)) (by decide)) (by decide) (by decide) (by decide) (by decide)) ?_))); clear h; rintro v61 Ψ61 ⟨ad61, c61, rfl, rfl⟩ a w h
          refine gL h (zw [_, _] rfl Tryz.call40 (C_pSame (norm (dyL (norm (mulL G H)))) (norm (norm (mulL (norm (dyL G)) H) ++ norm (mulL G (norm (dyL H))))) _ _ _ _ 10 10 83 168 ((hgx.mul hgy (by decide)).dy (by decide)) (((hgx.dy (by decide)).mul hgy (by decide)).add (hgx.mul (hgy.dy (by decide)) (by decide)) (by decide) (by decide)) (by decide) (by decide) (by decide) (by decide)) (zp (.unOp rfl (un_not _)) ?_)); clear h; intro a w h
          refine by_bool h (fun hc63 h => (by exfalso; exact clN (rule_mul_y G H) hc63)) (fun hc63 h => ?_)
          refine gL h (zm rfl (zq 64 rfl rfl (.move rfl) (zq 64 rfl rfl (.move rfl) (zq 64 rfl rfl (.move rfl) ?_)))); clear h; intro a w h
          refine wpl_guard 64 h rfl rfl (op_call h (vs := [_, _]) rfl Tryz.call41 (C_pAddF G H _ _ _ _ 5 5 41 41 hgx hgy (by decide) (by decide) (by decide) (by decide)) (by simp) (by decide) ?_); clear h; rintro v68 Ψ68 a w ⟨ad68, c68, rfl, rfl⟩ h
          refine wpl_guard 64 h rfl rfl (op_callx h (fs := []) (cs := []) rfl (vs := [_]) rfl Tryz.call39 (C_DyF (norm (G ++ H)) _ _ 5 84 (hgx.add hgy (by decide) (by decide)) (by decide) (by decide)) (by simp) (by decide) ?_); clear h; rintro v69 Ψ69 a w ⟨ad69, c69, rfl, rfl⟩ h
          refine gL h (zq 64 rfl rfl (.move rfl) (zq 64 rfl rfl (.move rfl) ?_)); clear h; intro a w h
          refine wpl_guard 64 h rfl rfl (op_callx h (fs := []) (cs := []) rfl (vs := [_]) rfl Tryz.call39 (C_DyF (G) _ _ 5 41 hgx (by decide) (by decide)) (by simp) (by decide) ?_); clear h; rintro v72 Ψ72 a w ⟨ad72, c72, rfl, rfl⟩ h
          refine gL h (zq 64 rfl rfl (.move rfl) (zq 64 rfl rfl (.move rfl) ?_)); clear h; intro a w h
          refine wpl_guard 64 h rfl rfl (op_callx h (fs := []) (cs := []) rfl (vs := [_]) rfl Tryz.call39 (C_DyF (H) _ _ 5 41 hgy (by decide) (by decide)) (by simp) (by decide) ?_); clear h; rintro v75 Ψ75 a w ⟨ad75, c75, rfl, rfl⟩ h
          refine wpl_guard 64 h rfl rfl (op_call h (vs := [_, _]) rfl Tryz.call41 (C_pAddF (norm (dyL G)) (norm (dyL H)) _ _ _ _ 5 5 42 42 (hgx.dy (by decide)) (hgy.dy (by decide)) (by decide) (by decide) (by decide) (by decide)) (by simp) (by decide) ?_); clear h; rintro v76 Ψ76 a w ⟨ad76, c76, rfl, rfl⟩ h
          refine wpl_guard 64 h rfl rfl (op_callW h (vs := [_, _]) rfl Tryz.call40 (C_pSame (norm (dyL (norm (G ++ H)))) (norm (norm (dyL G) ++ norm (dyL H))) _ _ _ _ 5 5 85 86 ((hgx.add hgy (by decide) (by decide)).dy (by decide)) ((hgx.dy (by decide)).add (hgy.dy (by decide)) (by decide) (by decide)) (by decide) (by decide) (by decide) (by decide)) (by simp) (by decide) ?_); clear h; intro a w h
          refine gL h (zq 64 rfl rfl (.unOp rfl (un_not _)) ?_); clear h; intro a w h
          refine by_bool h (fun hc78 h => (by exfalso; exact clN (rule_add_y G H) hc78)) (fun hc78 h => ?_)
          refine gL h (zp (.pickF rfl rfl) (zm rfl (zq 80 rfl rfl (.move rfl) (zq 80 rfl rfl (.move rfl) ?_)))); clear h; intro a w h
          refine wpl_guard 80 h rfl rfl (op_callx h (fs := []) (cs := []) rfl (vs := [_]) rfl Tryz.call39 (C_DyF (G) _ _ 5 41 hgx (by decide) (by decide)) (by simp) (by decide) ?_); clear h; rintro v83 Ψ83 a w ⟨ad83, c83, rfl, rfl⟩ h
          refine wpl_guard 80 h rfl rfl (op_callW h (vs := [_]) rfl Tryz.call42 (C_Degree (norm (dyL G)) _ _ 5 42 (hgx.dy (by decide)) (by decide) (by decide)) (by simp) (by decide) ?_); clear h; intro a w h
          refine gL h (zq 80 rfl rfl (.move rfl) ?_); clear h; intro a w h
          refine wpl_guard 80 h rfl rfl (op_callW h (vs := [_]) rfl Tryz.call42 (C_Degree G _ _ 5 41 hgx (by decide) (by decide)) (by simp) (by decide) ?_); clear h; intro a w h
          have hdg := degN_ge (norm G)
          have hdl := degN_le (DL_norm hgx.deg)
          refine gL h (zq 80 rfl rfl (.sub rfl rfl) (zq 80 rfl rfl (.builtin [_, _] rfl (fun w ty cs => bi_maxm _ w ty cs)) (zq 80 rfl rfl (.gtr rfl rfl) ?_))); clear h; intro a w h
          refine by_bool h (fun hc89 h => (by exfalso; have h8 := of_decide_eq_true hc89; have h9 := degN_dy G; rw [norm_norm] at h8; omega)) (fun hc89 h => ?_)
          refine gL h (zp (.pickF rfl rfl) (zm rfl (zq 91 rfl rfl (.move rfl) ?_))); clear h; intro a w h
          refine wpl_guard 91 h rfl rfl (op_callV h (vs := [_]) rfl Tryz.call44 (C_QInt _ (by omega) (by omega)) (by decide) ?_); clear h; intro a w h
          have hl93 := lenQ_int (5) (by omega) (by omega)
          refine wpl_guard 91 h rfl rfl (op_call h (vs := [_]) rfl Tryz.call43 (C_ConstF ((5 : Int) : Rat) 2 (lenQ_int 5 (by decide) (by decide)) (by decide)) (by simp) (by decide) ?_); clear h; rintro v94 Ψ94 a w ⟨ad94, c94, rfl, rfl⟩ h
          refine wpl_guard 91 h rfl rfl (op_callx h (fs := []) (cs := []) rfl (vs := [_]) rfl Tryz.call39 (C_DyF (norm [(⟨0, 0, ((5 : Int) : Rat)⟩ : Tm)]) _ _ 12 18 c5_Pq (by decide) (by decide)) (by simp) (by decide) ?_); clear h; rintro v95 Ψ95 a w ⟨ad95, c95, rfl, rfl⟩ h
          refine gL h (zq 91 rfl rfl (.builtin [_] rfl (len_slice_47 _ _ _)) (zq 91 rfl rfl (.neq rfl rfl) ?_)); clear h; intro a w h
          refine by_bool h (fun hc97 h => (by exfalso; exact rule_len (dy_const _) hc97)) (fun hc97 h => ?_)
          refine gL h (zp (.pickF rfl rfl) (zn ?_)); clear h; intro a w h
          change Code.wp _ _ _ _ _
          refine cond_false h rfl ?_
          refine gC h (zk (zr (zm rfl (zp (Pure1.cast (v' := (.int .i64 ((i + 1 : Nat) : Int))) (.add rfl rfl) (by show Value.int _ _ = Value.int _ _; congr 1)) (za rfl (zn ?_)))))); clear h; intro a w h
          exact ⟨i + 1, ⟨by omega, (h.factsSub (by simp)).sub sA⟩, by omega⟩
        · skip
          refine wpList_nil ?_
          change Code.wp _ _ _ _ _
          refine cond_false h rfl ?_
          refine gC h (zk (zs (zr (zm rfl (zm rfl ?_))))); clear h; intro a w h
          refine wpl_plain (op_callx h (fs := []) (cs := []) rfl (vs := [_]) rfl Tryz.call33 (C_DxF (G) _ _ 5 41 hgx (by decide) (by decide)) (by simp) (by decide) ?_); clear h; rintro v43 Ψ43 a w ⟨ad43, c43, rfl, rfl⟩ h
          refine gL h (zm rfl (zf [_, _] rfl Tryz.call38 (C_pMulF (norm (dxL G)) H _ _ _ _ 5 5 42 41 (hgx.dx (by decide)) hgy (by decide) (by decide) (by decide)) ?_)); clear h; rintro v45 Ψ45 ⟨ad45, c45, rfl, rfl⟩ a w h
          refine gL h (zm rfl (zp (.extract rfl (fun _ => rfl)) (zp (.extract rfl (fun _ => rfl)) (za rfl (za rfl (zn (zs (zr (zm rfl (zm rfl (zm rfl ?_))))))))))); clear h; intro a w h
          refine wpl_plain (op_callx h (fs := []) (cs := []) rfl (vs := [_]) rfl Tryz.call33 (C_DxF (H) _ _ 5 41 hgy (by decide) (by decide)) (by simp) (by decide) ?_); clear h; rintro v52 Ψ52 a w ⟨ad52, c52, rfl, rfl⟩ h
          refine gL h (zf [_, _] rfl Tryz.call38 (C_pMulF G (norm (dxL H)) _ _ _ _ 5 5 41 42 hgx (hgy.dx (by decide)) (by decide) (by decide) (by decide)) ?_); clear h; rintro v53 Ψ53 ⟨ad53, c53, rfl, rfl⟩ a w h
          refine gL h (zm rfl (zp (.extract rfl (fun _ => rfl)) (zp (.extract rfl (fun _ => rfl)) (za rfl (za rfl (zn (zs (zr (zm rfl (zm rfl ?_)))))))))); clear h; intro a w h
          refine wpl_plain (op_callx h (fs := []) (cs := []) rfl (vs := [_]) rfl Tryz.call33 (C_DxF (norm (mulL G H)) _ _ 10 82 (hgx.mul hgy (by decide)) (by decide) (by decide)) (by simp) (by decide) ?_); clear h; rintro v58 Ψ58 a w ⟨ad58, c58, rfl, rfl⟩ h
          refine gL h (zm rfl (zm rfl (zf [_, _] rfl Tryz.call41 (C_pAddF (norm (mulL (norm (dxL G)) H)) (norm (mulL G (norm (dxL H)))) _ _ _ _ 10 10 83 83 ((hgx.dx (by decide)).mul hgy (by decide)) (hgx.mul (hgy.dx (by decide)) (by decide)) (by decide) (by decide) (by decide) (by decide)) ?_))); clear h; rintro v61 Ψ61 ⟨ad61, c61, rfl, rfl⟩ a w h
          refine gL h (zw [_, _] rfl Tryz.call40 (C_pSame (norm (dxL (norm (mulL G H)))) (norm (norm (mulL (norm (dxL G)) H) ++ norm (mulL G (norm (dxL H))))) _ _ _ _ 10 10 83 168 ((hgx.mul hgy (by decide)).dx (by decide)) (((hgx.dx (by decide)).mul hgy (by decide)).add (hgx.mul (hgy.dx (by decide)) (by decide)) (by decide) (by decide)) (by decide) (by decide) (by decide) (by decide)) (zp (.unOp rfl (un_not _)) ?_)); clear h; intro a w h
          refine by_bool h (fun hc63 h => (by exfalso; exact clN (rule_mul_x G H) hc63)) (fun hc63 h => ?_)
          refine gL h (zm rfl (zq 64 rfl rfl (.move rfl) (zq 64 rfl rfl (.move rfl) (zq 64 rfl rfl (.move rfl) ?_)))); clear h; intro a w h
          refine wpl_guard 64 h rfl rfl (op_call h (vs := [_, _]) rfl Tryz.call41 (C_pAddF G H _ _ _ _ 5 5 41 41 hgx hgy (by decide) (by decide) (by decide) (by decide)) (by simp) (by decide) ?_); clear h; rintro v68 Ψ68 a w ⟨ad68, c68, rfl, rfl⟩ h
          refine wpl_guard 64 h rfl rfl (op_callx h (fs := []) (cs := []) rfl (vs := [_]) rfl Tryz.call33 (C_DxF (norm (G ++ H)) _ _ 5 84 (hgx.add hgy (by decide) (by decide)) (by decide) (by decide)) (by simp) (by decide) ?_); clear h; rintro v69 Ψ69 a w ⟨ad69, c69, rfl, rfl⟩ h
          refine gL h (zq 64 rfl rfl (.move rfl) (zq 64 rfl rfl (.move rfl) ?_)); clear h; intro a w h
          refine wpl_guard 64 h rfl rfl (op_callx h (fs := []) (cs := []) rfl (vs := [_]) rfl Tryz.call33 (C_DxF (G) _ _ 5 41 hgx (by decide) (by decide)) (by simp) (by decide) ?_); clear h; rintro v72 Ψ72 a w ⟨ad72, c72, rfl, rfl⟩ h
          refine gL h (zq 64 rfl rfl (.move rfl) (zq 64 rfl rfl (.move rfl) ?_)); clear h; intro a w h
          refine wpl_guard 64 h rfl rfl (op_callx h (fs := []) (cs := []) rfl (vs := [_]) rfl Tryz.call33 (C_DxF (H) _ _ 5 41 hgy (by decide) (by decide)) (by simp) (by decide) ?_); clear h; rintro v75 Ψ75 a w ⟨ad75, c75, rfl, rfl⟩ h
          refine wpl_guard 64 h rfl rfl (op_call h (vs := [_, _]) rfl Tryz.call41 (C_pAddF (norm (dxL G)) (norm (dxL H)) _ _ _ _ 5 5 42 42 (hgx.dx (by decide)) (hgy.dx (by decide)) (by decide) (by decide) (by decide) (by decide)) (by simp) (by decide) ?_); clear h; rintro v76 Ψ76 a w ⟨ad76, c76, rfl, rfl⟩ h
          refine wpl_guard 64 h rfl rfl (op_callW h (vs := [_, _]) rfl Tryz.call40 (C_pSame (norm (dxL (norm (G ++ H)))) (norm (norm (dxL G) ++ norm (dxL H))) _ _ _ _ 5 5 85 86 ((hgx.add hgy (by decide) (by decide)).dx (by decide)) ((hgx.dx (by decide)).add (hgy.dx (by decide)) (by decide) (by decide)) (by decide) (by decide) (by decide) (by decide)) (by simp) (by decide) ?_); clear h; intro a w h
          refine gL h (zq 64 rfl rfl (.unOp rfl (un_not _)) ?_); clear h; intro a w h
          refine by_bool h (fun hc78 h => (by exfalso; exact clN (rule_add_x G H) hc78)) (fun hc78 h => ?_)
          refine gL h (zp (.pickF rfl rfl) (zm rfl (zq 80 rfl rfl (.move rfl) (zq 80 rfl rfl (.move rfl) ?_)))); clear h; intro a w h
          refine wpl_guard 80 h rfl rfl (op_callx h (fs := []) (cs := []) rfl (vs := [_]) rfl Tryz.call33 (C_DxF (G) _ _ 5 41 hgx (by decide) (by decide)) (by simp) (by decide) ?_); clear h; rintro v83 Ψ83 a w ⟨ad83, c83, rfl, rfl⟩ h
          refine wpl_guard 80 h rfl rfl (op_callW h (vs := [_]) rfl Tryz.call42 (C_Degree (norm (dxL G)) _ _ 5 42 (hgx.dx (by decide)) (by decide) (by decide)) (by simp) (by decide) ?_); clear h; intro a w h
          refine gL h (zq 80 rfl rfl (.move rfl) ?_); clear h; intro a w h
          refine wpl_guard 80 h rfl rfl (op_callW h (vs := [_]) rfl Tryz.call42 (C_Degree G _ _ 5 41 hgx (by decide) (by decide)) (by simp) (by decide) ?_); clear h; intro a w h
          have hdg := degN_ge (norm G)
          have hdl := degN_le (DL_norm hgx.deg)
          refine gL h (zq 80 rfl rfl (.sub rfl rfl) (zq 80 rfl rfl (.builtin [_, _] rfl (fun w ty cs => bi_maxm _ w ty cs)) (zq 80 rfl rfl (.gtr rfl rfl) ?_))); clear h; intro a w h
          refine by_bool h (fun hc89 h => (by exfalso; have h8 := of_decide_eq_true hc89; have h9 := degN_dx G; rw [norm_norm] at h8; omega)) (fun hc89 h => ?_)
          refine gL h (zp (.pickF rfl rfl) (zm rfl (zq 91 rfl rfl (.move rfl) ?_))); clear h; intro a w h
          refine wpl_guard 91 h rfl rfl (op_callV h (vs := [_]) rfl Tryz.call44 (C_QInt _ (by omega) (by omega)) (by decide) ?_); clear h; intro a w h
          have hl93 := lenQ_int (5) (by omega) (by omega)
          refine wpl_guard 91 h rfl rfl (op_call h (vs := [_]) rfl Tryz.call43 (C_ConstF ((5 : Int) : Rat) 2 (lenQ_int 5 (by decide) (by decide)) (by decide)) (by simp) (by decide) ?_); clear h; rintro v94 Ψ94 a w ⟨ad94, c94, rfl, rfl⟩ h
          refine wpl_guard 91 h rfl rfl (op_callx h (fs := []) (cs := []) rfl (vs := [_]) rfl Tryz.call33 (C_DxF (norm [(⟨0, 0, ((5 : Int) : Rat)⟩ : Tm)]) _ _ 12 18 c5_Pq (by decide) (by decide)) (by simp) (by decide) ?_); clear h; rintro v95 Ψ95 a w ⟨ad95, c95, rfl, rfl⟩ h
          refine gL h (zq 91 rfl rfl (.builtin [_] rfl (len_slice_47 _ _ _)) (zq 91 rfl rfl (.neq rfl rfl) ?_)); clear h; intro a w h
          refine by_bool h (fun hc97 h => (by exfalso; exact rule_len (dx_const _) hc97)) (fun hc97 h => ?_)
          refine gL h (zp (.pickF rfl rfl) (zn ?_)); clear h; intro a w h
          change Code.wp _ _ _ _ _
          refine cond_false h rfl ?_
          refine gC h (zk (zr (zm rfl (zp (Pure1.cast (v' := (.int .i64 ((i + 1 : Nat) : Int))) (.add rfl rfl) (by show Value.int _ _ = Value.int _ _; congr 1)) (za rfl (zn ?_)))))); clear h; intro a w h
          exact ⟨i + 1, ⟨by omega, (h.factsSub (by simp)).sub sA⟩, by omega⟩
      · skip
        have heq_i : 2 = i := by have := of_decide_eq_false hc35; omega
        subst heq_i
        refine gC h (ze (zs (zr (zm rfl (zf [_] rfl Tryz.call39 (C_DyF G _ _ 5 41 hgx (by decide) (by decide)) ?_))))); clear h; rintro v100 Ψ100 ⟨ad100, c100, rfl, rfl⟩ a w h
        refine gL h (zf [_] rfl Tryz.call33 (C_DxF (norm (dyL G)) _ _ 5 42 (hgx.dy (by decide)) (by decide) (by decide)) ?_); clear h; rintro v101 Ψ101 ⟨ad101, c101, rfl, rfl⟩ a w h
        refine gL h (zm rfl (zf [_] rfl Tryz.call33 (C_DxF G _ _ 5 41 hgx (by decide) (by decide)) ?_)); clear h; rintro v103 Ψ103 ⟨ad103, c103, rfl, rfl⟩ a w h
        refine gL h (zf [_] rfl Tryz.call39 (C_DyF (norm (dxL G)) _ _ 5 42 (hgx.dx (by decide)) (by decide) (by decide)) ?_); clear h; rintro v104 Ψ104 ⟨ad104, c104, rfl, rfl⟩ a w h
        refine gL h (zw [_, _] rfl Tryz.call40 (C_pSame (norm (dxL (norm (dyL G)))) (norm (dyL (norm (dxL G)))) _ _ _ _ 5 5 43 43 ((hgx.dy (by decide)).dx (by decide)) ((hgx.dx (by decide)).dy (by decide)) (by decide) (by decide) (by decide) (by decide)) ?_); clear h; intro a w h
        refine by_bool h (fun hc105 h => ?_) (fun hc105 h => (by exfalso; exact clE (rule_comm G) hc105))
        refine gL h (zm rfl (zq 106 rfl rfl (.move rfl) ?_)); clear h; intro a w h
        refine wpl_guard 106 h rfl rfl (op_call h (vs := [_]) rfl Tryz.call45 (C_Laplace G _ _ 5 41 hgx (by decide) (by decide)) (by simp) (by decide) ?_); clear h; rintro v108 Ψ108 a w ⟨ad108, c108, rfl, rfl⟩ h
        refine gL h (zq 106 rfl rfl (.move rfl) ?_); clear h; intro a w h
        refine wpl_guard 106 h rfl rfl (op_call h (vs := [_]) rfl Tryz.call33 (C_DxF G _ _ 5 41 hgx (by decide) (by decide)) (by simp) (by decide) ?_); clear h; rintro v110 Ψ110 a w ⟨ad110, c110, rfl, rfl⟩ h
        refine wpl_guard 106 h rfl rfl (op_call h (vs := [_]) rfl Tryz.call33 (C_DxF (norm (dxL G)) _ _ 5 42 (hgx.dx (by decide)) (by decide) (by decide)) (by simp) (by decide) ?_); clear h; rintro v111 Ψ111 a w ⟨ad111, c111, rfl, rfl⟩ h
        refine gL h (zq 106 rfl rfl (.move rfl) ?_); clear h; intro a w h
        refine wpl_guard 106 h rfl rfl (op_call h (vs := [_]) rfl Tryz.call39 (C_DyF G _ _ 5 41 hgx (by decide) (by decide)) (by simp) (by decide) ?_); clear h; rintro v113 Ψ113 a w ⟨ad113, c113, rfl, rfl⟩ h
        refine wpl_guard 106 h rfl rfl (op_call h (vs := [_]) rfl Tryz.call39 (C_DyF (norm (dyL G)) _ _ 5 42 (hgx.dy (by decide)) (by decide) (by decide)) (by simp) (by decide) ?_); clear h; rintro v114 Ψ114 a w ⟨ad114, c114, rfl, rfl⟩ h
        refine wpl_guard 106 h rfl rfl (op_call h (vs := [_, _]) rfl Tryz.call41 (C_pAddF (norm (dxL (norm (dxL G)))) (norm (dyL (norm (dyL G)))) _ _ _ _ 5 5 43 43 ((hgx.dx (by decide)).dx (by decide)) ((hgx.dy (by decide)).dy (by decide)) (by decide) (by decide) (by decide) (by decide)) (by simp) (by decide) ?_); clear h; rintro v115 Ψ115 a w ⟨ad115, c115, rfl, rfl⟩ h
        refine wpl_guard 106 h rfl rfl (op_callW h (vs := [_, _]) rfl Tryz.call40 (C_pSame (norm (norm (dxL (norm (dxL G))) ++ norm (dyL (norm (dyL G))))) (norm (norm (dxL (norm (dxL G))) ++ norm (dyL (norm (dyL G))))) _ _ _ _ 5 5 88 88 (((hgx.dx (by decide)).dx (by decide)).add ((hgx.dy (by decide)).dy (by decide)) (by decide) (by decide)) (((hgx.dx (by decide)).dx (by decide)).add ((hgx.dy (by decide)).dy (by decide)) (by decide) (by decide)) (by decide) (by decide) (by decide) (by decide)) (by simp) (by decide) ?_); clear h; intro a w h
        refine by_bool h (fun hc116 h => ?_) (fun hc116 h => (by exfalso; exact clE rfl hc116))
        refine gL h (zp (.pickT rfl rfl) (zm rfl ?_)); clear h; intro a w h
        refine wpl_guard 118 h rfl rfl (op_callV h (vs := []) rfl Tryz.call37 (C_works8) (by decide) ?_); clear h; intro a w h
        refine gL h (zp (.pickT rfl rfl) (za rfl (zn (zt ?_)))); clear h; intro a w h
        refine retV h (results1 h rfl (.tmp rfl)) ?_
        rfl
end Go.Proofs.YtealgpgmbflilaaGreatDoor
