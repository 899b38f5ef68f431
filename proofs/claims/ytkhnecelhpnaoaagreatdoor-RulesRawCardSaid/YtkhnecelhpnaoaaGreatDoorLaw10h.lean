/- Written by a program of ours (gen.py) out of short specifications. By an AI agent. -/
import Derived.Test.YtkhnecelhpnaoaaGreatDoorLaw10g
set_option linter.unusedVariables false
set_option linter.unusedSimpArgs false
set_option maxRecDepth 4000
namespace Go.Proofs.YtkhnecelhpnaoaaGreatDoor
open Go Go.Proofs Go.Fx
attribute [local irreducible] Oper.wp Code.wp wpList Fx.Head wpOp
theorem bs_56_2_0_1 (x0_0 : Value) (x0_1 : Value) (x0_2 : Value) (x0_3 : Value) (x0_4 : Value) (x1_0 : Value) (x1_1 : Value) (x1_2 : Value) (x1_3 : Value) (x1_4 : Value) (w : World) : (Instr.buildSlice 56 2 [(0, .agg #[x0_0, x0_1, x0_2, x0_3, x0_4]), (1, .agg #[x1_0, x1_1, x1_2, x1_3, x1_4])].toArray).run Tryz.prog w = .ok (.slice (some ⟨w.heap.size, 0, none⟩) 2 2) (w.alloc (.cells #[x0_0, x0_1, x0_2, x0_3, x0_4, x1_0, x1_1, x1_2, x1_3, x1_4] 52 (0, 0))) := by
  simp [go_sem]
theorem bs_124_2_0_1 (x0_0 : Value) (x0_1 : Value) (x0_2 : Value) (x0_3 : Value) (x0_4 : Value) (x0_5 : Value) (x0_6 : Value) (x0_7 : Value) (x0_8 : Value) (x0_9 : Value) (x1_0 : Value) (x1_1 : Value) (x1_2 : Value) (x1_3 : Value) (x1_4 : Value) (x1_5 : Value) (x1_6 : Value) (x1_7 : Value) (x1_8 : Value) (x1_9 : Value) (w : World) : (Instr.buildSlice 124 2 [(0, .agg #[x0_0, x0_1, x0_2, x0_3, x0_4, x0_5, x0_6, x0_7, x0_8, x0_9]), (1, .agg #[x1_0, x1_1, x1_2, x1_3, x1_4, x1_5, x1_6, x1_7, x1_8, x1_9])].toArray).run Tryz.prog w = .ok (.slice (some ⟨w.heap.size, 0, none⟩) 2 2) (w.alloc (.cells #[x0_0, x0_1, x0_2, x0_3, x0_4, x0_5, x0_6, x0_7, x0_8, x0_9, x1_0, x1_1, x1_2, x1_3, x1_4, x1_5, x1_6, x1_7, x1_8, x1_9] 53 (0, 0))) := by
  simp [go_sem]
theorem mix2_K {Kp : Nat} {t : Rat} {a b : Pt} (h : lenQ t ≤ 1000) (ha : PtK Kp a) (hb : PtK Kp b) (hKp : Kp ≤ 3000) : (∀ z ∈ [((1 : Int) : Rat) - t, t], lenQ z ≤ 1010) ∧ PtK 18005 (mix2 t a b) := by
  have h1 := lenQ_int 1 (by decide) (by decide)
  have h2 := lenQ_sub ((1 : Int) : Rat) t
  have hn : ∀ z ∈ [((1 : Int) : Rat) - t, t], lenQ z ≤ 1010 := n2_K (by omega) (by omega)
  exact ⟨hn, mixK hn (l2_K ha hb) (by omega) hKp (by simp) (by simp) (by simp)⟩
theorem apLK {Kp d K : Nat} {ats ws : List Rat} {p : List Tm} {a b : Pt} (hw : ∀ x ∈ ws, lenQ x ≤ 1000) (hats : ∀ x ∈ ats, lenQ x ≤ 1000) (hq : Pq d K p) (hd : d ≤ 12) (hK : K ≤ 300000)
    (ha : PtK Kp a) (hb : PtK Kp b) (hKp : Kp ≤ 3000) (hle : ats.length = ws.length) : ∀ n, n ≤ ws.length → lenQ (apLN ats ws p a b n) ≤ 2 + n * 47001001
  | 0, _ => by rw [apLN]; have := lenQ_zero; omega
  | n + 1, h => by
    have ih := apLK hw hats hq hd hK ha hb hKp hle n (by omega)
    have h1 := ev_K hq hd hK (mix2_K (hats _ (getD_mem ats (d := 0) (show n < ats.length by omega))) ha hb hKp).2
    have h2 := hw _ (getD_mem ws (d := 0) (show n < ws.length by omega))
    have h3 := lenQ_mul (ws.getD n 0) (evP p (mix2 (ats.getD n 0) a b).1 (mix2 (ats.getD n 0) a b).2)
    have h4 := lenQ_add (apLN ats ws p a b n) (ws.getD n 0 * evP p (mix2 (ats.getD n 0) a b).1 (mix2 (ats.getD n 0) a b).2)
    rw [apLN, Nat.add_mul]; omega
theorem lineTop : ∀ d, d ≤ 8 → 1 ≤ d → lineI (lstT (cotA d) (d + 1)) (lstT (cotW d) (d + 1)) = ((d + 1 - d % 2 : Nat) : Int) := by decide +kernel
theorem line_law {d e : Nat} (h1 : 1 ≤ d) (h8 : d ≤ 8) (he : e = d + 1 - d % 2) {p : List Tm} (hp : DL e p) (a b : Pt) : apLN (lstT (cotA d) (d + 1)) (lstT (cotW d) (d + 1)) p a b (lstT (cotW d) (d + 1)).length = segQ p a b :=
  applyL_exact hp (fun x hx => lineI_ok (by rw [lineTop d h8 h1]; omega)) a b
theorem cl_E {p : Prop} [Decidable p] (h : p) (hc : decide p = false) : False := absurd h (of_decide_eq_false hc)
theorem cl_N {p : Prop} [Decidable p] (h : p) (hc : (!decide p) = true) : False := by rw [decide_eq_true h] at hc; cases hc

theorem C_ApplyLine (ad1 ad2 ad : Option Addr) (c1 c2 c d K Kp : Nat) (ats ws : List Rat) (p : List Tm) (pa pb : Pt) (hnw : ws.length ≤ 100) (hats : ∀ x ∈ ats, lenQ x ≤ 1000) (hws : ∀ x ∈ ws, lenQ x ≤ 1000) (hq : Pq d K p) (hd : d ≤ 12) (hK : K ≤ 300000) (ha : PtK Kp pa) (hb : PtK Kp pb) (hKp : Kp ≤ 3000) (hle : ats.length = ws.length) : CtrW Tryz.prog 29 [.agg #[.slice ad1 ats.length c1, .slice ad2 ws.length c2], .slice ad p.length c, encPt pa, encPt pb] [Row ad1 (cellsOf encQ ats), Row ad2 (cellsOf encQ ws), Row ad (cellsOf encT p)] (encQ (apLN ats ws p pa pb ws.length)) := by
  obtain ⟨ha1, ha2⟩ := ha
  obtain ⟨hb1, hb2⟩ := hb
  have ha : PtK Kp pa := ⟨ha1, ha2⟩
  have hb : PtK Kp pb := ⟨hb1, hb2⟩
  refine fn_intro Tryz.func29 rfl Tryz.ntmps29 nb ?_
  intro S w0 a hS h
  refine gC h (zs (zr (zx rfl fun b4 => zx rfl fun b6 => zx rfl fun b7 => zz zeroQ fun b8 => zn (zs (zs (zr (zp (.fieldAddr rfl (fa_71_0 _ _)) (zd rfl mr Tryz.isAgg56 Tryz.sizeOf56 (rs_2_0 _ _) ?_)))))))); clear h; intro a w h
  refine gL h (zp (.builtin [_] rfl (len_slice_56 _ _ _)) (zp (.fieldAddr rfl (fa_71_1 _ _)) (zd rfl mr Tryz.isAgg56 Tryz.sizeOf56 (rs_2_1 _ _) ?_))); clear h; intro a w h
  refine gL h (zp (.builtin [_] rfl (len_slice_56 _ _ _)) (zp (.neq rfl rfl) ?_)); clear h; intro a w h
  refine by_bool h (fun hc19 h => (by exfalso; exact natNe hc19 hle)) (fun hc19 h => ?_)
  refine wpList_nil ?_
  change Code.wp _ _ _ _ _
  refine cond_false h rfl ?_
  refine gC h (zk (zs (zs (zr (zp (.fieldAddr rfl (fa_71_1 _ _)) (zd rfl mr Tryz.isAgg56 Tryz.sizeOf56 (rs_2_1 _ _) ?_)))))); clear h; intro a w h
  refine gL h (zp (.builtin [_] rfl (len_slice_56 _ _ _)) (zm rfl (zn (zb ?_)))); clear h; intro a w h
  refine wp_loop_inv (fun (i : Nat) a w => i ≤ ws.length ∧ St 59 S w0 [(1, .slice ad p.length c), (4, .pointer (some ⟨b4, 0, none⟩)), (6, .pointer (some ⟨b6, 0, none⟩)), (7, .pointer (some ⟨b7, 0, none⟩)), (8, .pointer (some ⟨b8, 0, none⟩)), (22, .slice ad2 ws.length c2), (23, .int .i64 ((ws.length : Nat) : Int)), (24, .int .i64 ((i : Nat) : Int))] [(b8, .cells (Value.cells (encQ (apLN ats ws p pa pb i))) 52 (0, 0)), (b7, .cells (Value.cells (encV pb.1 pb.2)) 53 (0, 0)), (b6, .cells (Value.cells (encV pa.1 pa.2)) 53 (0, 0)), (b4, .cells (Value.cells (.agg #[.slice ad1 ats.length c1, .slice ad2 ws.length c2])) 71 (0, 0))] [Row ad1 (cellsOf encQ ats), Row ad2 (cellsOf encQ ws), Row ad (cellsOf encT p)] a w) (fun i => ws.length - i) 0 (⟨Nat.zero_le _, by exact (h).sub (subL ⟨rfl, rfl, rfl, rfl, rfl, rfl, rfl, rfl, trivial⟩)⟩) ?_; clear h
  rintro i a w ⟨hi_i, h⟩
  refine gC h (zs (zr (zp (.lss rfl rfl) (zn (zs ?_))))); clear h; intro a w h
  refine cond_split h rfl (fun hc25 => ?_) (fun hc25 => ?_)
  · skip
    have hlt_i : i < ws.length := by have := of_decide_eq_true hc25; omega
    have hi2 : i < ats.length := by omega
    obtain ⟨B_ad2, O_ad2, rfl⟩ := h.row_addr (ad := ad2) (M := cellsOf encQ ws) mm (by intro e; have := congrArg List.length e; rw [cellsOf_length (k := 5) (fun _ => rfl)] at this; simp only [List.length_nil, Nat.mul_eq_zero] at this; omega)
    obtain ⟨B_ad1, O_ad1, rfl⟩ := h.row_addr (ad := ad1) (M := cellsOf encQ ats) mm (by intro e; have := congrArg List.length e; rw [cellsOf_length (k := 5) (fun _ => rfl)] at this; simp only [List.length_nil, Nat.mul_eq_zero] at this; omega)
    have hti := hats _ (getD_mem ats (d := 0) hi2)
    have hwi := hws _ (getD_mem ws (d := 0) hlt_i)
    obtain ⟨hmn, hmx⟩ := mix2_K hti ha hb hKp
    have hev := ev_K hq hd hK hmx
    have hap := apLK hws hats hq hd hK ha hb hKp hle i (by omega)
    have him := Nat.mul_le_mul_right 47001001 (show i ≤ 100 by omega)
    have h1l := lenQ_int 1 (by decide) (by decide)
    refine gC h (zk (zs (zb (zs (zr (zm rfl (zp (.indexAddr rfl rfl (ix_56 _ _ _ _ _ (by omega))) (zD rfl mm (cells_lt (k := 5) (by decide) (fun _ => rfl) ws i (by omega)) Tryz.isAgg52 Tryz.sizeOf52 (read_cells (k := 5) (fun _ => rfl) ((fun _ => rfl)) ws 0 i (by omega)) (.inl rfl) ?_)))))))); clear h; intro a w h
    refine gL h (zz zeroQ fun b10 => za rfl (zt' rfl rfl (st_5_0_5 _ _ _ _ _ _ _ _ _ _) uu Tryz.sizeOf52 rfl nb rfl ?_)); clear h; intro a w h
    refine gL h (zn (zs (yD mixed_YtkhnecelhpnaoaaGreatDoor [1, 2, 3, 4, 5, 7, 8, 9, 10, 11, 13, 14, 0, 6, 12, 15, 16, 17, 18, 19, 20, 21, 22, 23] (floatsOK_of ⟨.inl rfl, .inl rfl, .inl rfl, .inl rfl, .inl rfl, .inl rfl, .inl rfl, .inl rfl, .inl rfl, .inl rfl, .inl rfl, .inl rfl, .inl rfl, .inl rfl, .inl rfl, .inl rfl, .inl rfl, .inl rfl, .inl rfl, .inl rfl, .inr ⟨11, 52, _, _, _, rfl, rfl, by decide, _, zeroQ⟩, .inr ⟨12, 52, _, _, _, rfl, rfl, by decide, _, zeroQ⟩, .inl rfl, .inl rfl, trivial⟩) (yp rfl (.fieldAddr rfl (fa_71_0 _ _)) (yd rfl rfl mr Tryz.isAgg56 Tryz.sizeOf56 (rs_2_0 _ _) ?_))))); clear h
    refine yp rfl (.move rfl) (yp rfl (.indexAddr rfl rfl (ix_56 _ _ _ _ _ (by omega))) ?_)
    refine head_loadRow rfl (by kernel_rfl) rfl mm (cells_lt (k := 5) (by decide) (fun _ => rfl) ats i (by omega)) Tryz.isAgg52 Tryz.sizeOf52 (read_cells (k := 5) (fun _ => rfl) ((fun _ => rfl)) ats 0 i (by omega)) (.inl rfl) (by decide) ?_
    refine yp rfl (.fieldAddr rfl (fa_71_0 _ _)) (yd rfl rfl mr Tryz.isAgg56 Tryz.sizeOf56 (rs_2_0 _ _) ?_)
    refine yp rfl (.move rfl) (yp rfl (.indexAddr rfl rfl (ix_56 _ _ _ _ _ (by omega))) ?_)
    refine head_loadRow rfl (by kernel_rfl) rfl mm (cells_lt (k := 5) (by decide) (fun _ => rfl) ats i (by omega)) Tryz.isAgg52 Tryz.sizeOf52 (read_cells (k := 5) (fun _ => rfl) ((fun _ => rfl)) ats 0 i (by omega)) (.inl rfl) (by decide) ?_
    refine yd rfl rfl mr Tryz.isAgg53 Tryz.sizeOf53 (rd_10_0_10 _ _ _ _ _ _ _ _ _ _) ?_
    refine yd rfl rfl mr Tryz.isAgg53 Tryz.sizeOf53 (rd_10_0_10 _ _ _ _ _ _ _ _ _ _) ?_
    refine head_swap 15 [6, 12, 16, 17, 18, 19, 20, 21, 22, 23] rfl rfl (by kernel_rfl) (by decide) ?_ ?_
    · refine loud_callV (vs := [_]) rfl rfl Tryz.call28 (C_QInt _ (by omega) (by omega)) (by decide) ?_
      have hl30 := lenQ_int (1) (by omega) (by omega)
      refine head_swap 15 [12, 16, 17, 18, 19, 20, 21, 22, 23] rfl rfl (by kernel_rfl) (by decide) ?_ ?_
      · refine loud_callV (vs := [_, _]) rfl rfl Tryz.call58 (C_QSub _ _ (by omega) (by omega)) (by decide) ?_
        have hl36 := lenQ_sub (((1 : Int) : Rat)) (ats.getD i 0)
        refine head_swap 15 [16, 17, 18, 19, 20, 21, 22, 23] rfl rfl (by kernel_rfl) (by decide) ?_ ?_
        · refine loud_buildRow hS rfl [(_, _), (_, _)] rfl (bs_56_2_0_1 _ _ _ _ _ _ _ _ _ _) (cellsOf encQ [((1 : Int) : Rat) - (ats.getD i 0), (ats.getD i 0)]) rfl (by decide) ?_; intro b42
          refine head_buildRow hS rfl (by kernel_rfl) [(_, _), (_, _)] rfl (bs_124_2_0_1 _ _ _ _ _ _ _ _ _ _ _ _ _ _ _ _ _ _ _ _) (cellsOf encPt [pa, pb]) rfl (by decide) ?_; intro b45
          refine yw [_, _] rfl rfl Tryz.call83 (C_mixed _ _ 2 2 1010 Kp [((1 : Int) : Rat) - (ats.getD i 0), (ats.getD i 0)] [pa, pb] hmn (l2_K ha hb) (by omega) hKp (by simp) (by simp)) (yp rfl (.move rfl) (yp rfl (.extract rfl (fun _ => rfl)) (yp rfl (.extract rfl (fun _ => rfl)) (yz rfl zeroQ fun b11 => yz rfl zeroQ fun b12 => yt rfl rfl rfl (st_5_0_5 _ _ _ _ _ _ _ _ _ _) uu Tryz.sizeOf52 rfl nb rfl ?_))))
          refine yt rfl rfl rfl (st_5_0_5 _ _ _ _ _ _ _ _ _ _) uu Tryz.sizeOf52 rfl nb rfl ?_
          refine yn (yD mixed_YtkhnecelhpnaoaaGreatDoor [0, 1, 2, 3, 4, 5, 6, 7, 8] (floatsOK_none (by kernel_rfl)) (yd rfl rfl mr Tryz.isAgg52 Tryz.sizeOf52 (rd_5_0_5 _ _ _ _ _) ?_))
          refine yd rfl rfl mr Tryz.isAgg52 Tryz.sizeOf52 (rd_5_0_5 _ _ _ _ _) ?_
          refine yp rfl (.move rfl) (yd rfl rfl mr Tryz.isAgg52 Tryz.sizeOf52 (rd_5_0_5 _ _ _ _ _) ?_)
          refine yd rfl rfl mr Tryz.isAgg52 Tryz.sizeOf52 (rd_5_0_5 _ _ _ _ _) ?_
          refine yw [_, _, _] rfl rfl Tryz.call63 (C_At p _ _ d K 18005 hq hd (mix2 (ats.getD i 0) pa pb).1 (mix2 (ats.getD i 0) pa pb).2 hmx.1 hmx.2 (by omega) (by decide)) (yv [_, _] rfl rfl Tryz.call61 (C_QMul _ _ (by omega) (by omega)) ?_)
          have hl55 := lenQ_mul (ws.getD i 0) (evP p (mix2 (ats.getD i 0) pa pb).1 (mix2 (ats.getD i 0) pa pb).2)
          refine yv [_, _] rfl rfl Tryz.call22 (C_QAdd _ _ (by omega) (by omega)) ?_
          have hl56 := lenQ_add (apLN ats ws p pa pb i) ((ws.getD i 0) * (evP p (mix2 (ats.getD i 0) pa pb).1 (mix2 (ats.getD i 0) pa pb).2))
          refine yt rfl rfl rfl (st_5_0_5 _ _ _ _ _ _ _ _ _ _) uu Tryz.sizeOf52 rfl nb rfl ?_
          refine yn (zr (zp (Pure1.cast (v' := (.int .i64 ((i + 1 : Nat) : Int))) (.add rfl rfl) (by show Value.int _ _ = Value.int _ _; congr 1)) (zm rfl (zn ?_)))); intro a w h
          exact ⟨i + 1, ⟨by omega, ((h.drop sl).factsSub (by simp)).sub sA⟩, by omega⟩
        · refine loud_buildRow hS rfl [(_, _), (_, _)] rfl (bs_124_2_0_1 _ _ _ _ _ _ _ _ _ _ _ _ _ _ _ _ _ _ _ _) (cellsOf encPt [pa, pb]) rfl (by decide) ?_; intro b45
          refine head_buildRow hS rfl (by kernel_rfl) [(_, _), (_, _)] rfl (bs_56_2_0_1 _ _ _ _ _ _ _ _ _ _) (cellsOf encQ [((1 : Int) : Rat) - (ats.getD i 0), (ats.getD i 0)]) rfl (by decide) ?_; intro b42
          refine yw [_, _] rfl rfl Tryz.call83 (C_mixed _ _ 2 2 1010 Kp [((1 : Int) : Rat) - (ats.getD i 0), (ats.getD i 0)] [pa, pb] hmn (l2_K ha hb) (by omega) hKp (by simp) (by simp)) (yp rfl (.move rfl) (yp rfl (.extract rfl (fun _ => rfl)) (yp rfl (.extract rfl (fun _ => rfl)) (yz rfl zeroQ fun b11 => yz rfl zeroQ fun b12 => yt rfl rfl rfl (st_5_0_5 _ _ _ _ _ _ _ _ _ _) uu Tryz.sizeOf52 rfl nb rfl ?_))))
          refine yt rfl rfl rfl (st_5_0_5 _ _ _ _ _ _ _ _ _ _) uu Tryz.sizeOf52 rfl nb rfl ?_
          refine yn (yD mixed_YtkhnecelhpnaoaaGreatDoor [0, 1, 2, 3, 4, 5, 6, 7, 8] (floatsOK_none (by kernel_rfl)) (yd rfl rfl mr Tryz.isAgg52 Tryz.sizeOf52 (rd_5_0_5 _ _ _ _ _) ?_))
          refine yd rfl rfl mr Tryz.isAgg52 Tryz.sizeOf52 (rd_5_0_5 _ _ _ _ _) ?_
          refine yp rfl (.move rfl) (yd rfl rfl mr Tryz.isAgg52 Tryz.sizeOf52 (rd_5_0_5 _ _ _ _ _) ?_)
          refine yd rfl rfl mr Tryz.isAgg52 Tryz.sizeOf52 (rd_5_0_5 _ _ _ _ _) ?_
          refine yw [_, _, _] rfl rfl Tryz.call63 (C_At p _ _ d K 18005 hq hd (mix2 (ats.getD i 0) pa pb).1 (mix2 (ats.getD i 0) pa pb).2 hmx.1 hmx.2 (by omega) (by decide)) (yv [_, _] rfl rfl Tryz.call61 (C_QMul _ _ (by omega) (by omega)) ?_)
          have hl55 := lenQ_mul (ws.getD i 0) (evP p (mix2 (ats.getD i 0) pa pb).1 (mix2 (ats.getD i 0) pa pb).2)
          refine yv [_, _] rfl rfl Tryz.call22 (C_QAdd _ _ (by omega) (by omega)) ?_
          have hl56 := lenQ_add (apLN ats ws p pa pb i) ((ws.getD i 0) * (evP p (mix2 (ats.getD i 0) pa pb).1 (mix2 (ats.getD i 0) pa pb).2))
          refine yt rfl rfl rfl (st_5_0_5 _ _ _ _ _ _ _ _ _ _) uu Tryz.sizeOf52 rfl nb rfl ?_
          refine yn (zr (zp (Pure1.cast (v' := (.int .i64 ((i + 1 : Nat) : Int))) (.add rfl rfl) (by show Value.int _ _ = Value.int _ _; congr 1)) (zm rfl (zn ?_)))); intro a w h
          exact ⟨i + 1, ⟨by omega, ((h.drop sl).factsSub (by simp)).sub sA⟩, by omega⟩
      · refine loud_buildRow hS rfl [(_, _), (_, _)] rfl (bs_124_2_0_1 _ _ _ _ _ _ _ _ _ _ _ _ _ _ _ _ _ _ _ _) (cellsOf encPt [pa, pb]) rfl (by decide) ?_; intro b45
        refine yv [_, _] rfl rfl Tryz.call58 (C_QSub _ _ (by omega) (by omega)) ?_
        have hl36 := lenQ_sub (((1 : Int) : Rat)) (ats.getD i 0)
        refine head_buildRow hS rfl (by kernel_rfl) [(_, _), (_, _)] rfl (bs_56_2_0_1 _ _ _ _ _ _ _ _ _ _) (cellsOf encQ [((1 : Int) : Rat) - (ats.getD i 0), (ats.getD i 0)]) rfl (by decide) ?_; intro b42
        refine yw [_, _] rfl rfl Tryz.call83 (C_mixed _ _ 2 2 1010 Kp [((1 : Int) : Rat) - (ats.getD i 0), (ats.getD i 0)] [pa, pb] hmn (l2_K ha hb) (by omega) hKp (by simp) (by simp)) (yp rfl (.move rfl) (yp rfl (.extract rfl (fun _ => rfl)) (yp rfl (.extract rfl (fun _ => rfl)) (yz rfl zeroQ fun b11 => yz rfl zeroQ fun b12 => yt rfl rfl rfl (st_5_0_5 _ _ _ _ _ _ _ _ _ _) uu Tryz.sizeOf52 rfl nb rfl ?_))))
        refine yt rfl rfl rfl (st_5_0_5 _ _ _ _ _ _ _ _ _ _) uu Tryz.sizeOf52 rfl nb rfl ?_
        refine yn (yD mixed_YtkhnecelhpnaoaaGreatDoor [0, 1, 2, 3, 4, 5, 6, 7, 8] (floatsOK_none (by kernel_rfl)) (yd rfl rfl mr Tryz.isAgg52 Tryz.sizeOf52 (rd_5_0_5 _ _ _ _ _) ?_))
        refine yd rfl rfl mr Tryz.isAgg52 Tryz.sizeOf52 (rd_5_0_5 _ _ _ _ _) ?_
        refine yp rfl (.move rfl) (yd rfl rfl mr Tryz.isAgg52 Tryz.sizeOf52 (rd_5_0_5 _ _ _ _ _) ?_)
        refine yd rfl rfl mr Tryz.isAgg52 Tryz.sizeOf52 (rd_5_0_5 _ _ _ _ _) ?_
        refine yw [_, _, _] rfl rfl Tryz.call63 (C_At p _ _ d K 18005 hq hd (mix2 (ats.getD i 0) pa pb).1 (mix2 (ats.getD i 0) pa pb).2 hmx.1 hmx.2 (by omega) (by decide)) (yv [_, _] rfl rfl Tryz.call61 (C_QMul _ _ (by omega) (by omega)) ?_)
        have hl55 := lenQ_mul (ws.getD i 0) (evP p (mix2 (ats.getD i 0) pa pb).1 (mix2 (ats.getD i 0) pa pb).2)
        refine yv [_, _] rfl rfl Tryz.call22 (C_QAdd _ _ (by omega) (by omega)) ?_
        have hl56 := lenQ_add (apLN ats ws p pa pb i) ((ws.getD i 0) * (evP p (mix2 (ats.getD i 0) pa pb).1 (mix2 (ats.getD i 0) pa pb).2))
        refine yt rfl rfl rfl (st_5_0_5 _ _ _ _ _ _ _ _ _ _) uu Tryz.sizeOf52 rfl nb rfl ?_
        refine yn (zr (zp (Pure1.cast (v' := (.int .i64 ((i + 1 : Nat) : Int))) (.add rfl rfl) (by show Value.int _ _ = Value.int _ _; congr 1)) (zm rfl (zn ?_)))); intro a w h
        exact ⟨i + 1, ⟨by omega, ((h.drop sl).factsSub (by simp)).sub sA⟩, by omega⟩
    · refine loud_buildRow hS rfl [(_, _), (_, _)] rfl (bs_124_2_0_1 _ _ _ _ _ _ _ _ _ _ _ _ _ _ _ _ _ _ _ _) (cellsOf encPt [pa, pb]) rfl (by decide) ?_; intro b45
      refine yv [_] rfl rfl Tryz.call28 (C_QInt _ (by omega) (by omega)) ?_
      have hl30 := lenQ_int (1) (by omega) (by omega)
      refine yv [_, _] rfl rfl Tryz.call58 (C_QSub _ _ (by omega) (by omega)) ?_
      have hl36 := lenQ_sub (((1 : Int) : Rat)) (ats.getD i 0)
      refine head_buildRow hS rfl (by kernel_rfl) [(_, _), (_, _)] rfl (bs_56_2_0_1 _ _ _ _ _ _ _ _ _ _) (cellsOf encQ [((1 : Int) : Rat) - (ats.getD i 0), (ats.getD i 0)]) rfl (by decide) ?_; intro b42
      refine yw [_, _] rfl rfl Tryz.call83 (C_mixed _ _ 2 2 1010 Kp [((1 : Int) : Rat) - (ats.getD i 0), (ats.getD i 0)] [pa, pb] hmn (l2_K ha hb) (by omega) hKp (by simp) (by simp)) (yp rfl (.move rfl) (yp rfl (.extract rfl (fun _ => rfl)) (yp rfl (.extract rfl (fun _ => rfl)) (yz rfl zeroQ fun b11 => yz rfl zeroQ fun b12 => yt rfl rfl rfl (st_5_0_5 _ _ _ _ _ _ _ _ _ _) uu Tryz.sizeOf52 rfl nb rfl ?_))))
      refine yt rfl rfl rfl (st_5_0_5 _ _ _ _ _ _ _ _ _ _) uu Tryz.sizeOf52 rfl nb rfl ?_
      refine yn (yD mixed_YtkhnecelhpnaoaaGreatDoor [0, 1, 2, 3, 4, 5, 6, 7, 8] (floatsOK_none (by kernel_rfl)) (yd rfl rfl mr Tryz.isAgg52 Tryz.sizeOf52 (rd_5_0_5 _ _ _ _ _) ?_))
      refine yd rfl rfl mr Tryz.isAgg52 Tryz.sizeOf52 (rd_5_0_5 _ _ _ _ _) ?_
      refine yp rfl (.move rfl) (yd rfl rfl mr Tryz.isAgg52 Tryz.sizeOf52 (rd_5_0_5 _ _ _ _ _) ?_)
      refine yd rfl rfl mr Tryz.isAgg52 Tryz.sizeOf52 (rd_5_0_5 _ _ _ _ _) ?_
      refine yw [_, _, _] rfl rfl Tryz.call63 (C_At p _ _ d K 18005 hq hd (mix2 (ats.getD i 0) pa pb).1 (mix2 (ats.getD i 0) pa pb).2 hmx.1 hmx.2 (by omega) (by decide)) (yv [_, _] rfl rfl Tryz.call61 (C_QMul _ _ (by omega) (by omega)) ?_)
      have hl55 := lenQ_mul (ws.getD i 0) (evP p (mix2 (ats.getD i 0) pa pb).1 (mix2 (ats.getD i 0) pa pb).2)
      refine yv [_, _] rfl rfl Tryz.call22 (C_QAdd _ _ (by omega) (by omega)) ?_
      have hl56 := lenQ_add (apLN ats ws p pa pb i) ((ws.getD i 0) * (evP p (mix2 (ats.getD i 0) pa pb).1 (mix2 (ats.getD i 0) pa pb).2))
      refine yt rfl rfl rfl (st_5_0_5 _ _ _ _ _ _ _ _ _ _) uu Tryz.sizeOf52 rfl nb rfl ?_
      refine yn (zr (zp (Pure1.cast (v' := (.int .i64 ((i + 1 : Nat) : Int))) (.add rfl rfl) (by show Value.int _ _ = Value.int _ _; congr 1)) (zm rfl (zn ?_)))); intro a w h
      exact ⟨i + 1, ⟨by omega, ((h.drop sl).factsSub (by simp)).sub sA⟩, by omega⟩
  · skip
    have heq_i : ws.length = i := by have := of_decide_eq_false hc25; omega
    subst heq_i
    refine gC h (ze (zs (zr (zd rfl mr Tryz.isAgg52 Tryz.sizeOf52 (rd_5_0_5 _ _ _ _ _) ?_)))); clear h; intro a w h
    refine gL h (zt' rfl rfl (st_5_0_5 _ _ _ _ _ _ _ _ _ _) uu Tryz.sizeOf52 rfl nb rfl ?_); clear h; intro a w h
    refine wpList_nil (wp_ret ?_)
    refine retV h (results1 h rfl (.cell rfl mr Tryz.isAgg52 Tryz.sizeOf52 (rd_5_0_5 _ _ _ _ _))) ?_
    rfl

theorem C_RulesLines (n : Nat) (hn : n < 256) (l : List Ti) (ad : Option Addr) (c : Nat) (hokl : ∀ t ∈ l, OkT t) (hln : l.length ≤ 9223372036854775807) (qa : (Int × Int) × (Int × Int)) (qb : (Int × Int) × (Int × Int)) (hqa : OkP qa) (hqb : OkP qb) : CtrW Tryz.prog 5 [.int .u8 (n : Int), .slice ad l.length c, encPQ qa, encPQ qb] [Row ad (cellsOf encTi l)] (.bool true) := by
  obtain ⟨d, hd, h1, h6⟩ : ∃ d, d = 1 + n % 8 ∧ 1 ≤ d ∧ d ≤ 8 := ⟨_, rfl, by omega, by omega⟩
  obtain ⟨e, he, he9⟩ : ∃ e, e = d + 1 - d % 2 ∧ e ≤ 9 := ⟨_, rfl, by omega⟩
  have hT := lineTop d h6 h1
  rw [← he] at hT
  have hlA := lstT_len (cotA d) (d + 1)
  have hlW := lstT_len (cotW d) (d + 1)
  have hKa := ptv_K hqa
  have hKb := ptv_K hqb
  refine fn_intro Tryz.func5 rfl Tryz.ntmps5 nb ?_
  intro S w0 a hS h
  refine gC h (zs (zr (zx rfl fun b6 => zx rfl fun b7 => za rfl (zn (zs (zs (zr (zm rfl (zp (.builtin [_] rfl (len_slice_31 _ _ _)) (zp (.gtr rfl rfl) ?_)))))))))); clear h; intro a w h
  refine by_bool h (fun hc16 h => ?_) (fun hc16 h => ?_)
  · skip
    refine wpList_nil ?_
    change Code.wp _ _ _ _ _
    refine cond_true h rfl ?_
    refine gC h (zs (zr (zv [] rfl Tryz.call18 (C_works) (za rfl (zn (zt ?_)))))); clear h; intro a w h
    refine retV h (results1 h rfl (.tmp rfl)) ?_
    rfl
  · skip
    have hll : l.length ≤ 8 := by have := of_decide_eq_false hc16; omega
    have hgx := made_Pq (d := e) hokl hll (by decide) (by omega)
    refine wpList_nil ?_
    change Code.wp _ _ _ _ _
    refine cond_false h rfl ?_
    refine gC h (zk (zs (zr (zm rfl (zp (.convert rfl (cv_5_3b _ (wrap_i64 _ (by omega) (by omega)))) (zp (Pure1.cast (v' := .int .i64 ((n % 8 : Nat) : Int)) (.binOp rfl rfl (fun _ => run_rem _ _ _ _ _ (by decide))) (by rw [show (8 : Int) = ((8 : Nat) : Int) from rfl, tmod_nat])) (zp (Pure1.cast (v' := .int .i64 ((d : Nat) : Int)) (Pure1.cast (v' := (.int .i64 ((1 + (n % 8) : Nat) : Int))) (.add rfl rfl) (by show Value.int _ _ = Value.int _ _; congr 1)) (by show Value.int _ _ = Value.int _ _; congr 1; omega)) (za rfl (zn (zs (zr (zm rfl (zf [_] rfl Tryz.call31 (C_Cotes d h1 h6 (cot_s d h6)) ?_))))))))))))); clear h; rintro v24 Ψ24 ⟨ad1, c1, ad2, c2, rfl, rfl⟩ a w h
    refine gL h (zm rfl (zp (.extract rfl (fun _ => rfl)) (zp (.extract rfl (fun _ => rfl)) (zz Tryz.zeroValue71 fun b10 => zt' rfl rfl (st_2_0_2 _ _ _ _) uu Tryz.sizeOf71 rfl nb rfl ?_)))); clear h; intro a w h
    refine gL h (za rfl (zn (zs (zr (zm rfl (zp (Pure1.cast (v' := (.int .i64 ((d + 1 : Nat) : Int))) (.add rfl rfl) (by show Value.int _ _ = Value.int _ _; congr 1)) (zm rfl (zp (Pure1.cast (v' := .int .i64 ((d % 2 : Nat) : Int)) (.binOp rfl rfl (fun _ => run_rem _ _ _ _ _ (by decide))) (by rw [show (2 : Int) = ((2 : Nat) : Int) from rfl, tmod_nat])) (zp (Pure1.cast (v' := .int .i64 ((e : Nat) : Int)) (.sub rfl rfl) (by show Value.int _ _ = Value.int _ _; congr 1; omega)) (za rfl (zn (zs (zr (zm rfl (zm rfl (zf [_, _] rfl Tryz.call19 (C_Made l _ _ e 8 (by assumption) (by omega) (by omega)) ?_)))))))))))))))); clear h; rintro v34 Ψ34 ⟨ad34, c34, rfl, rfl⟩ a w h
    obtain ⟨G, hnG⟩ : ∃ G, norm (madeL e l) = G := ⟨_, rfl⟩
    rw [hnG] at h hgx
    refine gL h (za rfl (zn (zs (yD mixed_YtkhnecelhpnaoaaGreatDoor [0, 1, 2, 3, 5, 4, 6, 7, 8, 9, 10, 11, 13, 16, 17, 19, 12, 14, 15, 18, 20, 21, 22, 23, 24, 25, 26, 27] (floatsOK_none (by kernel_rfl)) (yp rfl (.move rfl) (yp rfl (.eql rfl rfl) ?_)))))); clear h
    refine head_bool (fun hc36  => ?_) (fun hc36  => (by exfalso; exact absurd hc36 (by decide)))
    refine yp rfl (.move rfl) (yg rfl rfl rfl rfl mr Tryz.isAgg71 Tryz.sizeOf71 (rd_2_0_2 _ _) ?_)
    refine yq rfl rfl rfl (.move rfl) ?_
    refine head_callWG rfl rfl rfl (by kernel_rfl) (vs := [_]) rfl Tryz.call30 (C_ExactLine _ _ c1 c2 (lstT (cotA d) (d + 1)) (lstT (cotW d) (d + 1)) (by omega) (line_sA d h6) (line_sW d h6) (by omega)) (by simp) (by decide) ?_
    refine yq rfl rfl rfl (.eql rfl rfl) ?_
    refine head_bool (fun hc41  => ?_) (fun hc41  => (by exfalso; exact cl_E hT hc41))
    refine yp rfl (.pickT rfl rfl) (yp rfl (.move rfl) (yg rfl rfl rfl rfl mr Tryz.isAgg71 Tryz.sizeOf71 (rd_2_0_2 _ _) ?_))
    refine yq rfl rfl rfl (.move rfl) (yg rfl rfl rfl rfl mr Tryz.isAgg27 Tryz.sizeOf27 (rd_4_0_4 _ _ _ _) ?_)
    refine yg rfl rfl rfl rfl mr Tryz.isAgg27 Tryz.sizeOf27 (rd_4_0_4 _ _ _ _) ?_
    refine yq rfl rfl rfl (.move rfl) (yg rfl rfl rfl rfl mr Tryz.isAgg27 Tryz.sizeOf27 (rd_4_0_4 _ _ _ _) ?_)
    refine yg rfl rfl rfl rfl mr Tryz.isAgg27 Tryz.sizeOf27 (rd_4_0_4 _ _ _ _) ?_
    refine head_callVG rfl rfl rfl (by kernel_rfl) (vs := [_]) rfl Tryz.call20 (C_POf qa (by assumption)) (by decide) ?_
    refine head_callVG rfl rfl rfl (by kernel_rfl) (vs := [_]) rfl Tryz.call20 (C_POf qb (by assumption)) (by decide) ?_
    refine head_callWG rfl rfl rfl (by kernel_rfl) (vs := [_, _, _, _]) rfl Tryz.call29 (C_ApplyLine _ _ _ c1 c2 _ e 41 4 (lstT (cotA d) (d + 1)) (lstT (cotW d) (d + 1)) G (ptv qa) (ptv qb) (by omega) (line_sA d h6) (line_sW d h6) hgx (by omega) (by decide) hKa hKb (by decide) (by omega)) (by simp) (by decide) ?_
    refine head_callVG rfl rfl rfl (by kernel_rfl) (vs := [_]) rfl Tryz.call20 (C_POf qa (by assumption)) (by decide) ?_
    refine head_callVG rfl rfl rfl (by kernel_rfl) (vs := [_]) rfl Tryz.call20 (C_POf qb (by assumption)) (by decide) ?_
    refine head_callWG rfl rfl rfl (by kernel_rfl) (vs := [_, _, _]) rfl Tryz.call32 (C_Seg G _ _ e 41 4 hgx (by omega) (ptv qa) (ptv qb) hKa hKb (by decide) (by decide) (by decide)) (by simp) (by decide) ?_
    refine yq rfl rfl rfl (.binOp rfl rfl (fun _ => run_eqQ _ _ (apLN (lstT (cotA d) (d + 1)) (lstT (cotW d) (d + 1)) G (ptv qa) (ptv qb) (lstT (cotW d) (d + 1)).length) (segQ G (ptv qa) (ptv qb)) _)) ?_
    refine head_bool (fun hc57  => ?_) (fun hc57  => (by exfalso; exact cl_E (line_law h1 h6 he hgx.deg (ptv qa) (ptv qb)) hc57))
    refine yp rfl (.pickT rfl rfl) (yp rfl (.move rfl) ?_)
    refine head_callVG rfl rfl rfl (by kernel_rfl) (vs := []) rfl Tryz.call18 (C_works) (by decide) ?_
    refine yp rfl (.pickT rfl rfl) (yp rfl (.assign rfl) (yn (zt ?_))); intro a w h
    refine retV h (results1 h rfl (.tmp rfl)) ?_
    rfl
end Go.Proofs.YtkhnecelhpnaoaaGreatDoor
