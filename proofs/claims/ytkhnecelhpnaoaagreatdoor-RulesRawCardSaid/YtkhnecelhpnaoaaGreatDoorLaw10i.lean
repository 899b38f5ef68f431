/- Written by a program of ours (gen.py) out of short specifications. By an AI agent. -/
import Derived.Test.YtkhnecelhpnaoaaGreatDoorLaw10h
set_option linter.unusedVariables false
set_option linter.unusedSimpArgs false
set_option maxRecDepth 4000
namespace Go.Proofs.YtkhnecelhpnaoaaGreatDoor
open Go Go.Proofs Go.Fx
attribute [local irreducible] Oper.wp Code.wp wpList Fx.Head wpOp

theorem applyK {Kp d K : Nat} {ps : List (Rat × Rat × Rat)} {ws : List Rat} {p : List Tm} {a b c : Pt} (hw : ∀ x ∈ ws, lenQ x ≤ 1000) (hps : ∀ p ∈ ps, lenQ p.1 ≤ 1000 ∧ lenQ p.2.1 ≤ 1000 ∧ lenQ p.2.2 ≤ 1000) (hq : Pq d K p) (hd : d ≤ 12) (hK : K ≤ 300000)
    (ha : PtK Kp a) (hb : PtK Kp b) (hc : PtK Kp c) (hKp : Kp ≤ 3000) (hle : ps.length = ws.length) (hn : ws.length ≤ 20) : lenQ (applyQ ps ws p a b c) ≤ 1000000000 := by
  have h1 := apK hw hps hq hd hK ha hb hc hKp hle (by omega) ws.length (Nat.le_refl _)
  have h2 := area_K ha hb hc
  have h3 := lenQ_mul (twQ a b c / ((2 : Int) : Rat)) (apN ps ws p a b c ws.length)
  have h4 := Nat.mul_le_mul_right 47001001 hn
  unfold applyQ; omega
theorem one_Pq : Pq 0 4 (norm oneL) := by
  have h : Pq 0 4 oneL := ⟨fun t ht => by rw [oneL, List.mem_singleton] at ht; subst ht; exact Nat.le_refl 0, by decide, (Hb.of_KL (k := 2) (fun t ht => by rw [oneL, List.mem_singleton] at ht; subst ht; exact lenQ_one)).mono (by decide)⟩
  exact h.nrm (by decide)
theorem C_cone : Ctr Tryz.prog 36 [encQ ((1 : Int) : Rat)] [] (fun v Ψ => ∃ ad' c', v = .slice ad' (norm oneL).length c' ∧ Ψ = [Row ad' (cellsOf encT (norm oneL))]) := C_ConstF ((1 : Int) : Rat) 2 lenQ_one (by decide)
theorem clo_E {p : Prop} [Decidable p] (h : p) (hc : decide p = false) : False := absurd h (of_decide_eq_false hc)
theorem clo_N {p : Prop} [Decidable p] (h : p) (hc : (!decide p) = true) : False := by rw [decide_eq_true h] at hc; cases hc
theorem sgn_ne {x : Rat} (h : decide (x.num.sign = 0) = false) : x ≠ 0 := fun e => by rw [e] at h; exact absurd h (by decide)
theorem sums_area {ps : List (Rat × Rat × Rat)} {ws : List Rat} {e : Nat} (hc : checkI ps ws = 0) (he : exactI ps ws = (e : Int)) (a b c : Pt) : applyQ ps ws (norm oneL) a b c = twQ a b c / ((2 : Int) : Rat) := by
  rw [apply_exact (d := 0) hc one_Pq.deg (fun x hx => exactI_ok (by omega)) a b c, triQ_eqv (Eqv.nrm oneL) a b c, tri_oneL]

theorem C_RulesSums (ww : List ((Int × Int) × (Int × Int) × (Int × Int))) (l m : List Ti) (ad0 ad ad2 : Option Addr) (c0 c c2 : Nat) (hokw : ∀ q ∈ flW ww, OkQ q) (hokl : ∀ t ∈ l, OkT t) (hokm : ∀ t ∈ m, OkT t) (hwn : ww.length ≤ 9223372036854775807) (hln : l.length ≤ 9223372036854775807) (hmn : m.length ≤ 9223372036854775807) (qa : (Int × Int) × (Int × Int)) (qb : (Int × Int) × (Int × Int)) (qc : (Int × Int) × (Int × Int)) (hqa : OkP qa) (hqb : OkP qb) (hqc : OkP qc) : CtrW Tryz.prog 7 [.slice ad0 ww.length c0, .slice ad l.length c, .slice ad2 m.length c2, encPQ qa, encPQ qb, encPQ qc] [Row ad0 (cellsOf encW ww), Row ad (cellsOf encTi l), Row ad2 (cellsOf encTi m)] (.bool true) := by
  have hKa := ptv_K hqa
  have hKb := ptv_K hqb
  have hKc := ptv_K hqc
  refine fn_intro Tryz.func7 rfl Tryz.ntmps7 nb ?_
  intro S w0 a hS h
  refine gC h (zs (zr (zx rfl fun b9 => zx rfl fun b10 => zx rfl fun b11 => za rfl (zn (zs (zs (zr (zm rfl (zp (.builtin [_] rfl (len_slice_40 _ _ _)) (zp (.gtr rfl rfl) ?_)))))))))); clear h; intro a w h
  refine by_bool h (fun hc25 h => ?_) (fun hc25 h => ?_)
  · skip
    refine gL h (zm rfl (zo 26 rfl rfl rfl (zo 26 rfl rfl rfl (zo 26 rfl rfl rfl (zp (.pickT rfl rfl) (zm rfl (zo 31 rfl rfl rfl (zo 31 rfl rfl rfl (zo 31 rfl rfl rfl (zp (.pickT rfl rfl) (zn ?_))))))))))); clear h; intro a w h
    change Code.wp _ _ _ _ _
    refine cond_true h rfl ?_
    refine gC h (zs (zr (zv [] rfl Tryz.call18 (C_works) (za rfl (zn (zt ?_)))))); clear h; intro a w h
    refine retV h (results1 h rfl (.tmp rfl)) ?_
    rfl
  · skip
    refine gL h (zm rfl (zq 26 rfl rfl (.move rfl) (zq 26 rfl rfl (.builtin [_] rfl (len_slice_31 _ _ _)) (zq 26 rfl rfl (.gtr rfl rfl) ?_)))); clear h; intro a w h
    refine by_bool h (fun hc29 h => ?_) (fun hc29 h => ?_)
    · skip
      refine gL h (zp (.pickF rfl rfl) (zm rfl (zo 31 rfl rfl rfl (zo 31 rfl rfl rfl (zo 31 rfl rfl rfl (zp (.pickT rfl rfl) (zn ?_))))))); clear h; intro a w h
      change Code.wp _ _ _ _ _
      refine cond_true h rfl ?_
      refine gC h (zs (zr (zv [] rfl Tryz.call18 (C_works) (za rfl (zn (zt ?_)))))); clear h; intro a w h
      refine retV h (results1 h rfl (.tmp rfl)) ?_
      rfl
    · skip
      refine gL h (zp (.pickF rfl rfl) (zm rfl (zq 31 rfl rfl (.move rfl) (zq 31 rfl rfl (.builtin [_] rfl (len_slice_31 _ _ _)) (zq 31 rfl rfl (.gtr rfl rfl) ?_))))); clear h; intro a w h
      refine by_bool h (fun hc34 h => ?_) (fun hc34 h => ?_)
      · skip
        refine gL h (zp (.pickF rfl rfl) (zn ?_)); clear h; intro a w h
        change Code.wp _ _ _ _ _
        refine cond_true h rfl ?_
        refine gC h (zs (zr (zv [] rfl Tryz.call18 (C_works) (za rfl (zn (zt ?_)))))); clear h; intro a w h
        refine retV h (results1 h rfl (.tmp rfl)) ?_
        rfl
      · skip
        have hwl : ww.length ≤ 7 := by have := of_decide_eq_false hc25; omega
        have hll : l.length ≤ 6 := by have := of_decide_eq_false hc29; omega
        have hml : m.length ≤ 6 := by have := of_decide_eq_false hc34; omega
        have hgx := made_Pq (d := 4) hokl hll (by decide) (by decide)
        have hgy := made_Pq (d := 4) hokm hml (by decide) (by decide)
        have hfl := flW_len ww
        obtain ⟨P, hP⟩ : ∃ P, P = lstT (madP (flW ww)) ww.length := ⟨_, rfl⟩
        obtain ⟨W, hW⟩ : ∃ W, W = lstT (madW (flW ww)) ww.length := ⟨_, rfl⟩
        have hlP : P.length = ww.length := by rw [hP, lstT_len]
        have hlW : W.length = ww.length := by rw [hW, lstT_len]
        have hch : checkI P W = 0 := by rw [hP, hW]; exact mad_check _ _
        have hsP : ∀ p ∈ P, lenQ p.1 ≤ 1000 ∧ lenQ p.2.1 ≤ 1000 ∧ lenQ p.2.2 ≤ 1000 := by rw [hP]; exact lenQ_madP hokw (by omega)
        have hsW : ∀ x ∈ W, lenQ x ≤ 1000 := by rw [hW]; exact lenQ_madW hokw (by omega)
        have hrange := exactI_range P W
        refine gL h (zp (.pickF rfl rfl) (zn ?_)); clear h; intro a w h
        change Code.wp _ _ _ _ _
        refine cond_false h rfl ?_
        refine gC h (zk (zs (zr (zm rfl (zf [_] rfl Tryz.call21 (C_made _ _ ww hokw (by omega)) ?_))))); clear h; rintro v38 Ψ38 ⟨ad38, c38, bd38, d38, rfl, rfl⟩ a w h
        rw [← hP, ← hW] at h
        refine gL h (zz Tryz.zeroValue58 fun b13 => zt' rfl rfl (st_2_0_2 _ _ _ _) uu Tryz.sizeOf58 rfl nb rfl ?_); clear h; intro a w h
        refine gL h (zn (zs (yD mixed_YtkhnecelhpnaoaaGreatDoor [0, 2, 4, 1, 3, 5, 6, 7, 8, 9, 10, 11] (floatsOK_of ⟨.inl rfl, .inl rfl, .inl rfl, .inl rfl, .inl rfl, .inl rfl, .inr ⟨14, 53, _, _, _, rfl, rfl, by decide, _, zeroPt⟩, .inr ⟨15, 53, _, _, _, rfl, rfl, by decide, _, zeroPt⟩, .inr ⟨16, 53, _, _, _, rfl, rfl, by decide, _, zeroPt⟩, .inl rfl, .inl rfl, .inl rfl, trivial⟩) (yd rfl rfl mr Tryz.isAgg27 Tryz.sizeOf27 (rd_4_0_4 _ _ _ _) ?_)))); clear h
        refine yd rfl rfl mr Tryz.isAgg27 Tryz.sizeOf27 (rd_4_0_4 _ _ _ _) ?_
        refine yd rfl rfl mr Tryz.isAgg27 Tryz.sizeOf27 (rd_4_0_4 _ _ _ _) ?_
        refine yv [_] rfl rfl Tryz.call20 (C_POf qa (by assumption)) (yv [_] rfl rfl Tryz.call20 (C_POf qb (by assumption)) (yv [_] rfl rfl Tryz.call20 (C_POf qc (by assumption)) (yz rfl zeroPt fun b14 => yz rfl zeroPt fun b15 => yz rfl zeroPt fun b16 => yt rfl rfl rfl (st_10_0_10 _ _ _ _ _ _ _ _ _ _ _ _ _ _ _ _ _ _ _ _) uu Tryz.sizeOf53 rfl nb rfl ?_)))
        refine yt rfl rfl rfl (st_10_0_10 _ _ _ _ _ _ _ _ _ _ _ _ _ _ _ _ _ _ _ _) uu Tryz.sizeOf53 rfl nb rfl ?_
        refine yt rfl rfl rfl (st_10_0_10 _ _ _ _ _ _ _ _ _ _ _ _ _ _ _ _ _ _ _ _) uu Tryz.sizeOf53 rfl nb rfl ?_
        refine yn (zs (zr (zm rfl (zf [_, _] rfl Tryz.call19 (C_Made l _ _ 4 8 (by assumption) (by omega) (by omega)) ?_)))); rintro v46 Ψ46 ⟨ad46, c46, rfl, rfl⟩ a w h
        refine gL h (zm rfl (zf [_, _] rfl Tryz.call19 (C_Made m _ _ 4 8 (by assumption) (by omega) (by omega)) ?_)); clear h; rintro v48 Ψ48 ⟨ad48, c48, rfl, rfl⟩ a w h
        obtain ⟨G, hnG⟩ : ∃ G, norm (madeL 4 l) = G := ⟨_, rfl⟩
        rw [hnG] at h hgx
        obtain ⟨H, hnH⟩ : ∃ G, norm (madeL 4 m) = G := ⟨_, rfl⟩
        rw [hnH] at h hgy
        have hlG : lenQ (applyQ P W G (ptv qa) (ptv qb) (ptv qc)) ≤ 1000000000 := applyK hsW hsP hgx (by decide) (by decide) hKa hKb hKc (by decide) (by omega) (by omega)
        have hlH : lenQ (applyQ P W H (ptv qa) (ptv qb) (ptv qc)) ≤ 1000000000 := applyK hsW hsP hgy (by decide) (by decide) hKa hKb hKc (by decide) (by omega) (by omega)
        refine gL h (za rfl (za rfl (zn (zs (zs (yD mixed_YtkhnecelhpnaoaaGreatDoor [0, 1, 2, 4, 5, 6, 8, 9, 10, 11, 12, 14, 15, 16, 17, 18, 3, 7, 13, 19, 20, 21] (floatsOK_none (by kernel_rfl)) (yd rfl rfl mr Tryz.isAgg58 Tryz.sizeOf58 (rd_2_0_2 _ _) ?_))))))); clear h
        refine yp rfl (.move rfl) (yp rfl (.move rfl) (yd rfl rfl mr Tryz.isAgg53 Tryz.sizeOf53 (rd_10_0_10 _ _ _ _ _ _ _ _ _ _) ?_))
        refine yd rfl rfl mr Tryz.isAgg53 Tryz.sizeOf53 (rd_10_0_10 _ _ _ _ _ _ _ _ _ _) ?_
        refine yd rfl rfl mr Tryz.isAgg53 Tryz.sizeOf53 (rd_10_0_10 _ _ _ _ _ _ _ _ _ _) ?_
        refine yd rfl rfl mr Tryz.isAgg58 Tryz.sizeOf58 (rd_2_0_2 _ _) ?_
        refine yp rfl (.move rfl) (yd rfl rfl mr Tryz.isAgg53 Tryz.sizeOf53 (rd_10_0_10 _ _ _ _ _ _ _ _ _ _) ?_)
        refine yd rfl rfl mr Tryz.isAgg53 Tryz.sizeOf53 (rd_10_0_10 _ _ _ _ _ _ _ _ _ _) ?_
        refine yd rfl rfl mr Tryz.isAgg53 Tryz.sizeOf53 (rd_10_0_10 _ _ _ _ _ _ _ _ _ _) ?_
        refine yd rfl rfl mr Tryz.isAgg58 Tryz.sizeOf58 (rd_2_0_2 _ _) ?_
        refine yp rfl (.move rfl) (yd rfl rfl mr Tryz.isAgg53 Tryz.sizeOf53 (rd_10_0_10 _ _ _ _ _ _ _ _ _ _) ?_)
        refine yd rfl rfl mr Tryz.isAgg53 Tryz.sizeOf53 (rd_10_0_10 _ _ _ _ _ _ _ _ _ _) ?_
        refine yd rfl rfl mr Tryz.isAgg53 Tryz.sizeOf53 (rd_10_0_10 _ _ _ _ _ _ _ _ _ _) ?_
        refine yf [_, _] rfl rfl Tryz.call35 (C_pAddF G H _ _ _ _ 4 4 31 31 hgx hgy (by decide) (by decide) (by decide) (by decide)) ?_; rintro v52 Ψ52 ⟨ad52, c52, rfl, rfl⟩
        refine yw [_, _, _, _, _] rfl rfl Tryz.call27 (C_Apply _ _ _ c38 d38 _ 4 64 4 P W (norm (G ++ H)) (ptv qa) (ptv qb) (ptv qc) (by omega) (by omega) hsP hsW (hgx.add hgy (by decide) (by decide)) (by omega) (by decide) hKa hKb hKc (by decide) hch) (yw [_, _, _, _, _] rfl rfl Tryz.call27 (C_Apply _ _ _ c38 d38 _ 4 31 4 P W G (ptv qa) (ptv qb) (ptv qc) (by omega) (by omega) hsP hsW hgx (by omega) (by decide) hKa hKb hKc (by decide) hch) (yw [_, _, _, _, _] rfl rfl Tryz.call27 (C_Apply _ _ _ c38 d38 _ 4 31 4 P W H (ptv qa) (ptv qb) (ptv qc) (by omega) (by omega) hsP hsW hgy (by omega) (by decide) hKa hKb hKc (by decide) hch) (yv [_, _] rfl rfl Tryz.call22 (C_QAdd _ _ (by omega) (by omega)) ?_)))
        have hl69 := lenQ_add (applyQ P W G (ptv qa) (ptv qb) (ptv qc)) (applyQ P W H (ptv qa) (ptv qb) (ptv qc))
        refine yp rfl (.binOp rfl rfl (fun _ => run_neQ _ _ (applyQ P W (norm (G ++ H)) (ptv qa) (ptv qb) (ptv qc)) ((applyQ P W G (ptv qa) (ptv qb) (ptv qc)) + (applyQ P W H (ptv qa) (ptv qb) (ptv qc))) _)) ?_
        refine head_bool (fun hc70  => (by exfalso; exact clo_N (apply_app G H P W (ptv qa) (ptv qb) (ptv qc)) hc70)) (fun hc70  => ?_)
        refine yn ?_; intro a w h
        change Code.wp _ _ _ _ _
        refine cond_false h rfl ?_
        refine gC h (zk (zs (zr (zd rfl mr Tryz.isAgg58 Tryz.sizeOf58 (rd_2_0_2 _ _) ?_)))); clear h; intro a w h
        refine gL h (zw [_] rfl Tryz.call26 (C_Exact _ _ c38 d38 P W (by omega) (by omega) hsP hsW hch) (za rfl (zn (zs (zr (zv [_] rfl Tryz.call28 (C_QInt _ (by omega) (by omega)) ?_)))))); clear h; intro a w h
        have hl73 := lenQ_int (1) (by omega) (by omega)
        refine gL h (zf [_] rfl Tryz.call36 (C_cone) ?_); clear h; rintro v74 Ψ74 ⟨ad74, c74, rfl, rfl⟩ a w h
        refine gL h (za rfl (zn (zs (zr (zd rfl mr Tryz.isAgg53 Tryz.sizeOf53 (rd_10_0_10 _ _ _ _ _ _ _ _ _ _) ?_))))); clear h; intro a w h
        refine gL h (zd rfl mr Tryz.isAgg53 Tryz.sizeOf53 (rd_10_0_10 _ _ _ _ _ _ _ _ _ _) ?_); clear h; intro a w h
        refine gL h (zd rfl mr Tryz.isAgg53 Tryz.sizeOf53 (rd_10_0_10 _ _ _ _ _ _ _ _ _ _) ?_); clear h; intro a w h
        refine gL h (zv [_, _, _] rfl Tryz.call37 (C_Area (ptv qa) (ptv qb) (ptv qc) 4 hKa hKb hKc (by decide)) (zz zeroQ fun b21 => zt' rfl rfl (st_5_0_5 _ _ _ _ _ _ _ _ _ _) uu Tryz.sizeOf52 rfl nb rfl ?_)); clear h; intro a w h
        refine gL h (zn (zs (zs (zr (zm rfl (zp (.lss rfl rfl) ?_)))))); clear h; intro a w h
        refine by_bool h (fun hc80 h => ?_) (fun hc80 h => ?_)
        · skip
          have hneg : exactI P W < 0 := of_decide_eq_true hc80
          refine wpList_nil ?_
          change Code.wp _ _ _ _ _
          refine cond_true h rfl ?_
          refine gC h (zs (yD mixed_YtkhnecelhpnaoaaGreatDoor [0, 1, 2, 3, 4, 5, 6, 7, 8, 10, 9, 11, 12, 13, 14, 15, 16] (floatsOK_none (by kernel_rfl)) (yd rfl rfl mr Tryz.isAgg52 Tryz.sizeOf52 (rd_5_0_5 _ _ _ _ _) ?_))); clear h
          refine yv [_] rfl rfl Tryz.call24 (C_QSign _) (yp rfl (.eql rfl rfl) ?_)
          refine head_bool (fun hc83  => ?_) (fun hc83  => ?_)
          · skip
            refine yp rfl (.move rfl) (yo 84 rfl rfl rfl rfl (yo 84 rfl rfl rfl rfl (yo 84 rfl rfl rfl rfl (yo 84 rfl rfl rfl rfl (yo 84 rfl rfl rfl rfl (yo 84 rfl rfl rfl rfl (yo 84 rfl rfl rfl rfl (yo 84 rfl rfl rfl rfl (yp rfl (.pickT rfl rfl) (yp rfl (.move rfl) ?_))))))))))
            refine head_callVG rfl rfl rfl (by kernel_rfl) (vs := []) rfl Tryz.call18 (C_works) (by decide) ?_
            refine yp rfl (.pickT rfl rfl) (yp rfl (.assign rfl) (yn (zt ?_))); intro a w h
            refine retV h (results1 h rfl (.tmp rfl)) ?_
            rfl
          · skip
            refine yp rfl (.move rfl) (yg rfl rfl rfl rfl mr Tryz.isAgg58 Tryz.sizeOf58 (rd_2_0_2 _ _) ?_)
            refine yq rfl rfl rfl (.move rfl) (yg rfl rfl rfl rfl mr Tryz.isAgg53 Tryz.sizeOf53 (rd_10_0_10 _ _ _ _ _ _ _ _ _ _) ?_)
            refine yg rfl rfl rfl rfl mr Tryz.isAgg53 Tryz.sizeOf53 (rd_10_0_10 _ _ _ _ _ _ _ _ _ _) ?_
            refine yg rfl rfl rfl rfl mr Tryz.isAgg53 Tryz.sizeOf53 (rd_10_0_10 _ _ _ _ _ _ _ _ _ _) ?_
            refine yg rfl rfl rfl rfl mr Tryz.isAgg52 Tryz.sizeOf52 (rd_5_0_5 _ _ _ _ _) ?_
            refine head_callWG rfl rfl rfl (by kernel_rfl) (vs := [_, _, _, _, _]) rfl Tryz.call27 (C_Apply _ _ _ c38 d38 _ 0 4 4 P W (norm oneL) (ptv qa) (ptv qb) (ptv qc) (by omega) (by omega) hsP hsW one_Pq (by omega) (by decide) hKa hKb hKc (by decide) hch) (by simp) (by decide) ?_
            refine yq rfl rfl rfl (.binOp rfl rfl (fun _ => run_neQ _ _ (applyQ P W (norm oneL) (ptv qa) (ptv qb) (ptv qc)) (twQ (ptv qa) (ptv qb) (ptv qc) / ((2 : Int) : Rat)) _)) ?_
            refine head_bool (fun hc92  => ?_) (fun hc92  => (by exfalso; exact apply_one_ne hneg (ptv qa) (ptv qb) (ptv qc) (sgn_ne hc83) (by simpa using hc92)))
            refine yp rfl (.pickF rfl rfl) (yp rfl (.move rfl) ?_)
            refine head_callVG rfl rfl rfl (by kernel_rfl) (vs := []) rfl Tryz.call18 (C_works) (by decide) ?_
            refine yp rfl (.pickT rfl rfl) (yp rfl (.assign rfl) (yn (zt ?_))); intro a w h
            refine retV h (results1 h rfl (.tmp rfl)) ?_
            rfl
        · skip
          have hpos := of_decide_eq_false hc80
          obtain ⟨e, hex⟩ : ∃ e : Nat, exactI P W = (e : Int) := ⟨(exactI P W).toNat, by omega⟩
          rw [hex] at h
          have hgz := made_Pq (d := e) hokl hll (by decide) (by omega)
          refine wpList_nil ?_
          change Code.wp _ _ _ _ _
          refine cond_false h rfl ?_
          refine gC h (zk (zs (zr (zm rfl (zm rfl (zf [_, _] rfl Tryz.call19 (C_Made l _ _ e 8 (by assumption) (by omega) (by omega)) ?_)))))); clear h; rintro v99 Ψ99 ⟨ad99, c99, rfl, rfl⟩ a w h
          obtain ⟨G2, hnG2⟩ : ∃ G, norm (madeL e l) = G := ⟨_, rfl⟩
          rw [hnG2] at h hgz
          refine gL h (za rfl (zn (zs (yD mixed_YtkhnecelhpnaoaaGreatDoor [0, 1, 2, 3, 4, 6, 7, 8, 9, 5, 10, 11, 12, 13, 14, 15, 16, 17, 19, 18, 20, 21, 22, 23, 24, 25] (floatsOK_none (by kernel_rfl)) (yd rfl rfl mr Tryz.isAgg58 Tryz.sizeOf58 (rd_2_0_2 _ _) ?_))))); clear h
          refine yp rfl (.move rfl) (yd rfl rfl mr Tryz.isAgg53 Tryz.sizeOf53 (rd_10_0_10 _ _ _ _ _ _ _ _ _ _) ?_)
          refine yd rfl rfl mr Tryz.isAgg53 Tryz.sizeOf53 (rd_10_0_10 _ _ _ _ _ _ _ _ _ _) ?_
          refine yd rfl rfl mr Tryz.isAgg53 Tryz.sizeOf53 (rd_10_0_10 _ _ _ _ _ _ _ _ _ _) ?_
          refine yp rfl (.move rfl) (yd rfl rfl mr Tryz.isAgg53 Tryz.sizeOf53 (rd_10_0_10 _ _ _ _ _ _ _ _ _ _) ?_)
          refine yd rfl rfl mr Tryz.isAgg53 Tryz.sizeOf53 (rd_10_0_10 _ _ _ _ _ _ _ _ _ _) ?_
          refine yd rfl rfl mr Tryz.isAgg53 Tryz.sizeOf53 (rd_10_0_10 _ _ _ _ _ _ _ _ _ _) ?_
          refine yw [_, _, _, _, _] rfl rfl Tryz.call27 (C_Apply _ _ _ c38 d38 _ e 31 4 P W G2 (ptv qa) (ptv qb) (ptv qc) (by omega) (by omega) hsP hsW hgz (by omega) (by decide) hKa hKb hKc (by decide) hch) (yw [_, _, _, _] rfl rfl Tryz.call34 (C_Tri G2 _ _ e 31 4 hgz (by omega) (ptv qa) (ptv qb) (ptv qc) hKa hKb hKc (by decide) (by decide)) (yp rfl (.binOp rfl rfl (fun _ => run_eqQ _ _ (applyQ P W G2 (ptv qa) (ptv qb) (ptv qc)) (triQ G2 (ptv qa) (ptv qb) (ptv qc)) _)) ?_))
          refine head_bool (fun hc111  => ?_) (fun hc111  => (by exfalso; exact clo_E (apply_exact hch hgz.deg (fun x hx => exactI_ok (by omega)) (ptv qa) (ptv qb) (ptv qc)) hc111))
          refine yp rfl (.move rfl) (yg rfl rfl rfl rfl mr Tryz.isAgg58 Tryz.sizeOf58 (rd_2_0_2 _ _) ?_)
          refine yq rfl rfl rfl (.move rfl) (yg rfl rfl rfl rfl mr Tryz.isAgg53 Tryz.sizeOf53 (rd_10_0_10 _ _ _ _ _ _ _ _ _ _) ?_)
          refine yg rfl rfl rfl rfl mr Tryz.isAgg53 Tryz.sizeOf53 (rd_10_0_10 _ _ _ _ _ _ _ _ _ _) ?_
          refine yg rfl rfl rfl rfl mr Tryz.isAgg53 Tryz.sizeOf53 (rd_10_0_10 _ _ _ _ _ _ _ _ _ _) ?_
          refine yg rfl rfl rfl rfl mr Tryz.isAgg52 Tryz.sizeOf52 (rd_5_0_5 _ _ _ _ _) ?_
          refine head_callWG rfl rfl rfl (by kernel_rfl) (vs := [_, _, _, _, _]) rfl Tryz.call27 (C_Apply _ _ _ c38 d38 _ 0 4 4 P W (norm oneL) (ptv qa) (ptv qb) (ptv qc) (by omega) (by omega) hsP hsW one_Pq (by omega) (by decide) hKa hKb hKc (by decide) hch) (by simp) (by decide) ?_
          refine yq rfl rfl rfl (.binOp rfl rfl (fun _ => run_eqQ _ _ (applyQ P W (norm oneL) (ptv qa) (ptv qb) (ptv qc)) (twQ (ptv qa) (ptv qb) (ptv qc) / ((2 : Int) : Rat)) _)) ?_
          refine head_bool (fun hc120  => ?_) (fun hc120  => (by exfalso; exact clo_E (sums_area hch hex (ptv qa) (ptv qb) (ptv qc)) hc120))
          refine yp rfl (.pickT rfl rfl) (yp rfl (.move rfl) ?_)
          refine head_callVG rfl rfl rfl (by kernel_rfl) (vs := []) rfl Tryz.call18 (C_works) (by decide) ?_
          refine yp rfl (.pickT rfl rfl) (yp rfl (.assign rfl) (yn (zt ?_))); intro a w h
          refine retV h (results1 h rfl (.tmp rfl)) ?_
          rfl
end Go.Proofs.YtkhnecelhpnaoaaGreatDoor
