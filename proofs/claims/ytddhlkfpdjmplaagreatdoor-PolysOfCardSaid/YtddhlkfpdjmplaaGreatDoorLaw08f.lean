/- Written by a program of ours (gen.py) out of short specifications. By an AI agent. -/
import Derived.Test.YtddhlkfpdjmplaaGreatDoorPtxt
set_option linter.unusedVariables false
set_option linter.unusedSimpArgs false
set_option maxRecDepth 4000
namespace Go.Proofs.YtddhlkfpdjmplaaGreatDoor
open Go Go.Proofs Go.Fx
attribute [local irreducible] Oper.wp Code.wp wpList Fx.Head wpOp
theorem ok_c {t : Tm} (h : t.c ≠ 0) (hc : (t.c.num.sign == 0) = true) : False := by
  rw [beq_iff_eq, Int.sign_eq_zero_iff_zero] at hc
  exact h (Rat.num_eq_zero.1 hc)
theorem nrm_adj {p : List Tm} (h : Nrm p) {i : Nat} (h0 : 0 < i) (hi : i < p.length) : ordT (p.getD (i - 1) T0) (p.getD i T0) < 0 := by
  rw [ordT_lt]
  have := List.pairwise_iff_getElem.1 h.2 (i - 1) i (by omega) hi (by omega)
  simpa [List.getD, hi, show i - 1 < p.length by omega] using this
theorem C_OkN (p : List Tm) (ad : Option Addr) (c : Nat) (hN : Nrm p) (hd : DL 12 p) (hn : p.length ≤ 100000) : CtrW Tryz.prog 26 [.slice ad p.length c] [Row ad (cellsOf encT p)] (.bool true) := by
  refine fn_intro Tryz.func26 rfl Tryz.ntmps26 nb ?_
  intro S w0 a hS h
  refine gC h (zs (zr (za rfl (zn (zs (zs (zr (zm rfl (zp (.builtin [_] rfl (len_slice_47 _ _ _)) (zm rfl (zn (zb ?_)))))))))))); clear h; intro a w h
  refine wp_loop_inv (fun (i : Nat) a w => i ≤ p.length ∧ St 36 S w0 [(0, .slice ad p.length c), (5, .slice ad p.length c), (6, .int .i64 ((p.length : Nat) : Int)), (7, .int .i64 ((i : Nat) : Int))] [] [Row ad (cellsOf encT p)] a w) (fun i => p.length - i) 0 (⟨Nat.zero_le _, by exact (h).sub (subL ⟨rfl, rfl, rfl, rfl, trivial⟩)⟩) ?_; clear h
  rintro i a w ⟨hi_i, h⟩
  refine gC h (zs (zr (zp (.lss rfl rfl) (zn (zs ?_))))); clear h; intro a w h
  refine cond_split h rfl (fun hc8 => ?_) (fun hc8 => ?_)
  · skip
    have hlt_i : i < p.length := by have := of_decide_eq_true hc8; omega
    obtain ⟨B_ad, O_ad, rfl⟩ := h.row_addr (ad := ad) (M := cellsOf encT p) mm (by intro e; have := congrArg List.length e; rw [cellsOf_length (k := 7) (fun _ => rfl)] at this; simp only [List.length_nil, Nat.mul_eq_zero] at this; omega)
    have hmem := getD_mem p (d := T0) hlt_i
    have hdg := hd _ hmem
    refine gC h (zk (zs (zb (zs (zr (zm rfl (zp (.indexAddr rfl rfl (ix_47 _ _ _ _ _ (by omega))) (zD rfl mm (cells_lt (k := 7) (by decide) (fun _ => rfl) p i (by omega)) Tryz.isAgg117 Tryz.sizeOf117 (read_cells (k := 7) (fun _ => rfl) ((fun _ => rfl)) p T0 i (by omega)) (.inl rfl) ?_)))))))); clear h; intro a w h
    refine gL h (zz zeroT fun b4 => za rfl (zt' rfl rfl (st_7_0_7 _ _ _ _ _ _ _ _ _ _ _ _ _ _) uu Tryz.sizeOf117 rfl nb rfl ?_)); clear h; intro a w h
    refine gL h (zn (zs (yD mixed_YtddhlkfpdjmplaaGreatDoor [0, 1, 2, 3, 4, 5, 6, 7, 8, 9, 10, 11, 12, 13, 14, 15, 16, 17, 18, 19, 20, 21, 22] (floatsOK_none (by kernel_rfl)) (yd rfl rfl mr Tryz.isAgg117 Tryz.sizeOf117 (rd_7_0_7 _ _ _ _ _ _ _) ?_)))); clear h
    refine yv [_] rfl rfl Tryz.call80 (C_may (p.getD i T0) (by omega)) (yp rfl (.neq rfl rfl) ?_)
    refine head_bool (fun hc14  => (by exfalso; exact absurd hc14 (by decide))) (fun hc14  => ?_)
    refine yp rfl (.move rfl) (yq rfl rfl rfl (.fieldAddr rfl (fa_117_2 _ _)) (yg rfl rfl rfl rfl mr Tryz.isAgg44 Tryz.sizeOf44 (rd_7_2_5 _ _ _ _ _ _ _) ?_))
    refine head_callVG rfl rfl rfl (by kernel_rfl) (vs := [_]) rfl Tryz.call83 (C_QSign _) (by decide) ?_
    refine yq rfl rfl rfl (.eql rfl rfl) ?_
    refine head_bool (fun hc19  => (by exfalso; exact ok_c (hN.1 _ hmem) hc19)) (fun hc19  => ?_)
    refine yp rfl (.pickF rfl rfl) (yp rfl (.move rfl) (yq rfl rfl rfl (.move rfl) (yq rfl rfl rfl (.gtr rfl rfl) ?_)))
    refine head_bool (fun hc23  => ?_) (fun hc23  => ?_)
    · skip
      have h0i : 0 < i := by have := of_decide_eq_true hc23; omega
      have hdg2 := hd _ (getD_mem p (d := T0) (show i - 1 < p.length by omega))
      refine yq rfl rfl rfl (.move rfl) (yq rfl rfl rfl (.move rfl) (yq rfl rfl rfl (.move rfl) (yq rfl rfl rfl (Pure1.cast (v' := (.int .i64 ((i - 1 : Nat) : Int))) (.sub rfl rfl) (by show Value.int _ _ = Value.int _ _; congr 1; omega)) (yq rfl rfl rfl (.indexAddr rfl rfl (ix_47 _ _ _ _ _ (by omega))) ?_))))
      refine head_loadRowG rfl rfl rfl (by kernel_rfl) rfl mm (cells_lt (k := 7) (by decide) (fun _ => rfl) p (i - 1) (by omega)) Tryz.isAgg117 Tryz.sizeOf117 (read_cells (k := 7) (fun _ => rfl) ((fun _ => rfl)) p T0 (i - 1) (by omega)) (.inl rfl) (by decide) ?_
      refine yg rfl rfl rfl rfl mr Tryz.isAgg117 Tryz.sizeOf117 (rd_7_0_7 _ _ _ _ _ _ _) ?_
      refine head_callVG rfl rfl rfl (by kernel_rfl) (vs := [_, _]) rfl Tryz.call90 (C_porder (p.getD (i - 1) T0) (p.getD i T0) (by omega) (by omega)) (by decide) ?_
      refine yq rfl rfl rfl (.geq rfl rfl) ?_
      refine head_bool (fun hc32  => (by exfalso; have h8 := of_decide_eq_true hc32; have h9 := nrm_adj hN h0i hlt_i; omega)) (fun hc32  => ?_)
      refine yq rfl rfl rfl (.pickT rfl rfl) (yp rfl (.pickF rfl rfl) (yn ?_)); intro a w h
      change Code.wp _ _ _ _ _
      refine cond_false h rfl ?_
      refine gC h (zk (zr (zp (Pure1.cast (v' := (.int .i64 ((i + 1 : Nat) : Int))) (.add rfl rfl) (by show Value.int _ _ = Value.int _ _; congr 1)) (zm rfl (zn ?_))))); clear h; intro a w h
      exact ⟨i + 1, ⟨by omega, ((h.drop sl).factsSub (by simp)).sub sA⟩, by omega⟩
    · skip
      refine yq rfl rfl rfl (.move rfl) (yo 24 rfl rfl rfl rfl (yo 24 rfl rfl rfl rfl (yo 24 rfl rfl rfl rfl (yo 24 rfl rfl rfl rfl (yo 24 rfl rfl rfl rfl (yo 24 rfl rfl rfl rfl (yo 24 rfl rfl rfl rfl (yo 24 rfl rfl rfl rfl (yq rfl rfl rfl (.pickF rfl rfl) (yp rfl (.pickF rfl rfl) (yn ?_))))))))))); intro a w h
      change Code.wp _ _ _ _ _
      refine cond_false h rfl ?_
      refine gC h (zk (zr (zp (Pure1.cast (v' := (.int .i64 ((i + 1 : Nat) : Int))) (.add rfl rfl) (by show Value.int _ _ = Value.int _ _; congr 1)) (zm rfl (zn ?_))))); clear h; intro a w h
      exact ⟨i + 1, ⟨by omega, ((h.drop sl).factsSub (by simp)).sub sA⟩, by omega⟩
  · skip
    have heq_i : p.length = i := by have := of_decide_eq_false hc8; omega
    subst heq_i
    refine gC h (ze (zs (zr (za rfl (zn (zt ?_)))))); clear h; intro a w h
    refine retV h (results1 h rfl (.tmp rfl)) ?_
    rfl
theorem tx_size {d K : Nat} {p : List Tm} (hq : Pq d K p) : ∀ t ∈ norm p, (txtQ (ab t.c)).size ≤ 20 * K + 10 := fun t ht => by
  have h := hq.nsz t ht
  refine txtQ_sizeW _ ?_
  unfold lenQ lenZ at *
  rw [(ab_num t.c).1, (ab_num t.c).2]; exact h
theorem tx_ctr {d K : Nat} {p : List Tm} (hq : Pq d K p) (hK : K ≤ 300000) : ∀ t ∈ norm p, CtrW Tryz.prog 55 [encQ (ab t.c)] [TabF] (.string (txtQ (ab t.c))) := fun t ht => C_QTextG (ab t.c) (by
  have h := hq.nsz t ht
  unfold lenQ lenZ at *
  rw [(ab_num t.c).1, (ab_num t.c).2]; exact Nat.le_trans h hK)
theorem C_TextG (p : List Tm) (ad : Option Addr) (c d K : Nat) (hq : Pq d K p) (hd : d ≤ 12) (hK : K ≤ 300000) : CtrW Tryz.prog 21 [.slice ad p.length c] [Row ad (cellsOf encT p), TabF] (.string (txtP txtQ (norm p))) :=
  C_PTextG p ad c d K (20 * K + 10) [TabF] txtQ hq hd (by omega) (tx_ctr hq hK) (tx_size hq) (by omega) (by omega)
end Go.Proofs.YtddhlkfpdjmplaaGreatDoor
