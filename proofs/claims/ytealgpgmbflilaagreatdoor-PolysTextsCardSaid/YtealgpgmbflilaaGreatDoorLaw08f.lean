/- Written by a program of ours (gen.py) out of short specifications. By an AI agent. -/
import Derived.Test.YtealgpgmbflilaaGreatDoorPtxt
set_option linter.unusedVariables false
set_option linter.unusedSimpArgs false
set_option maxRecDepth 4000
namespace Go.Proofs.YtealgpgmbflilaaGreatDoor
open Go Go.Proofs Go.Fx
attribute [local irreducible] Oper.wp Code.wp wpList Fx.Head wpOp

theorem C_alike (p q : List Tm) (ada adb : Option Addr) (ca cb : Nat) (hp : p.length ≤ 1000000) (hq : q.length ≤ 1000000) : CtrW Tryz.prog 60 [.slice ada p.length ca, .slice adb q.length cb] [Row ada (cellsOf encT p), Row adb (cellsOf encT q)] (.bool (decide (p = q))) := by
  refine fn_intro Tryz.func60 rfl Tryz.ntmps60 nb ?_
  intro S w0 a hS h
  refine gC h (zs (zr (za rfl (zn (zs (zs (zr (zm rfl (zp (.builtin [_] rfl (len_slice_47 _ _ _)) (zm rfl (zp (.builtin [_] rfl (len_slice_47 _ _ _)) (zp (.neq rfl rfl) (zn ?_))))))))))))); clear h; intro a w h
  change Code.wp _ _ _ _ _
  refine cond_split h rfl (fun hc10 => ?_) (fun hc10 => ?_)
  · skip
    have hne : p.length ≠ q.length := natNe hc10
    refine gC h (zs (zr (za rfl (zn (zt ?_))))); clear h; intro a w h
    refine retV h (results1 h rfl (.tmp rfl)) ?_
    rw [decide_eq_false (fun e => hne (by rw [e]))]
  · skip
    have hle : p.length = q.length := natEq hc10
    refine gC h (zk (zs (zs (zr (za rfl (zn (zb ?_))))))); clear h; intro a w h
    refine wp_loop_inv (fun (i : Nat) a w => i ≤ p.length ∧ (∀ k, k < i → p.getD k T0 = q.getD k T0) ∧ St 26 S w0 [(0, .slice ada p.length ca), (1, .slice adb q.length cb), (5, .int .i64 ((i : Nat) : Int))] [] [Row ada (cellsOf encT p), Row adb (cellsOf encT q)] a w) (fun i => p.length - i) 0 (⟨Nat.zero_le _, fun k hk => absurd hk (Nat.not_lt_zero _), by exact (h).sub (subL ⟨rfl, rfl, rfl, trivial⟩)⟩) ?_; clear h
    rintro i a w ⟨hi_i, hinv_i, h⟩
    refine gC h (zs (zs (zr (zm rfl (zm rfl (zp (.builtin [_] rfl (len_slice_47 _ _ _)) (zp (.lss rfl rfl) (zn ?_)))))))); clear h; intro a w h
    change Code.wp _ _ _ _ _
    refine cond_split h rfl (fun hc14 => ?_) (fun hc14 => ?_)
    · skip
      have hlt_i : i < p.length := by have := of_decide_eq_true hc14; omega
      have hqi : q.length ≠ 0 := by omega
      obtain ⟨B_ada, O_ada, rfl⟩ := h.row_addr (ad := ada) (M := cellsOf encT p) mm (by intro e; have := congrArg List.length e; rw [cellsOf_length (k := 7) (fun _ => rfl)] at this; simp only [List.length_nil, Nat.mul_eq_zero] at this; omega)
      obtain ⟨B_adb, O_adb, rfl⟩ := h.row_addr (ad := adb) (M := cellsOf encT q) mm (by intro e; have := congrArg List.length e; rw [cellsOf_length (k := 7) (fun _ => rfl)] at this; simp only [List.length_nil, Nat.mul_eq_zero] at this; omega)
      refine gC h (zk (zs (zb (zs (yD mixed_YtealgpgmbflilaaGreatDoor [0, 1, 2, 3, 4, 5, 6, 7, 8] (floatsOK_none (by kernel_rfl)) (yp rfl (.move rfl) (yp rfl (.move rfl) (yp rfl (.indexAddr rfl rfl (ix_47 _ _ _ _ _ (by omega))) ?_)))))))); clear h
      refine head_loadRow rfl (by kernel_rfl) rfl mm (cells_lt (k := 7) (by decide) (fun _ => rfl) p i (by omega)) Tryz.isAgg129 Tryz.sizeOf129 (read_cells (k := 7) (fun _ => rfl) ((fun _ => rfl)) p T0 i (by omega)) (.inl rfl) (by decide) ?_
      refine yp rfl (.move rfl) (yp rfl (.move rfl) (yp rfl (.indexAddr rfl rfl (ix_47 _ _ _ _ _ (by omega))) ?_))
      refine head_loadRow rfl (by kernel_rfl) rfl mm (cells_lt (k := 7) (by decide) (fun _ => rfl) q i (by omega)) Tryz.isAgg129 Tryz.sizeOf129 (read_cells (k := 7) (fun _ => rfl) ((fun _ => rfl)) q T0 i (by omega)) (.inl rfl) (by decide) ?_
      refine yp rfl (.binOp rfl rfl (fun _ => run_neT _ _ (p.getD i T0) (q.getD i T0) _)) (yn ?_); intro a w h
      change Code.wp _ _ _ _ _
      refine cond_split h rfl (fun hc25 => ?_) (fun hc25 => ?_)
      · skip
        have hbad : ¬ p.getD i T0 = q.getD i T0 := of_decide_eq_false (by simpa using hc25)
        refine gC h (zs (zr (za rfl (zn (zt ?_))))); clear h; intro a w h
        refine retV h (results1 h rfl (.tmp rfl)) ?_
        rw [decide_eq_false (fun e => hbad (by rw [e]))]
      · skip
        have hgood : p.getD i T0 = q.getD i T0 := of_decide_eq_true (by simpa using hc25)
        refine gC h (zk (zr (zm rfl (zp (Pure1.cast (v' := (.int .i64 ((i + 1 : Nat) : Int))) (.add rfl rfl) (by show Value.int _ _ = Value.int _ _; congr 1)) (za rfl (zn ?_)))))); clear h; intro a w h
        exact ⟨i + 1, ⟨by omega, fun k hk => by rcases Nat.lt_or_ge k i with h | h; exact hinv_i k h; rw [show k = i by omega]; exact hgood, (h.factsSub (by simp)).sub sA⟩, by omega⟩
    · skip
      have heq_i : p.length = i := by have := of_decide_eq_false hc14; omega
      subst heq_i
      refine gC h (ze (zs (zr (za rfl (zn (zt ?_)))))); clear h; intro a w h
      refine retV h (results1 h rfl (.tmp rfl)) ?_
      rw [decide_eq_true (eqL_of hle hinv_i)]

theorem ok_c {t : Tm} (h : t.c ≠ 0) (hc : (t.c.num.sign == 0) = true) : False := by
  rw [beq_iff_eq, Int.sign_eq_zero_iff_zero] at hc
  exact h (Rat.num_eq_zero.1 hc)
theorem nrm_adj {p : List Tm} (h : Nrm p) {i : Nat} (h0 : 0 < i) (hi : i < p.length) : ordT (p.getD (i - 1) T0) (p.getD i T0) < 0 := by
  rw [ordT_lt]
  have := List.pairwise_iff_getElem.1 h.2 (i - 1) i (by omega) hi (by omega)
  simpa [List.getD, hi, show i - 1 < p.length by omega] using this

theorem C_OkN (p : List Tm) (ad : Option Addr) (c : Nat) (hN : Nrm p) (hd : DL 12 p) (hn : p.length ≤ 100000) : CtrW Tryz.prog 59 [.slice ad p.length c] [Row ad (cellsOf encT p)] (.bool true) := by
  refine fn_intro Tryz.func59 rfl Tryz.ntmps59 nb ?_
  intro S w0 a hS h
  refine gC h (zs (zr (za rfl (zn (zs (zs (zr (zm rfl (zp (.builtin [_] rfl (len_slice_47 _ _ _)) (zm rfl (zn (zb ?_)))))))))))); clear h; intro a w h
  refine wp_loop_inv (fun (i : Nat) a w => i ≤ p.length ∧ St 36 S w0 [(0, .slice ad p.length c), (5, .slice ad p.length c), (6, .int .i64 ((p.length : Nat) : Int)), (7, .int .i64 ((i : Nat) : Int))] [] [Row ad (cellsOf encT p)] a w) (fun i => p.length - i) 0 (⟨Nat.zero_le _, by exact (h).sub (subL ⟨rfl, rfl, rfl, rfl, trivial⟩)⟩) ?_; clear h
  rintro i a w ⟨hi_i, h⟩
  refine gC h (zs (zr (zp (.lss rfl rfl) (zn (zs ?_))))); clear h; intro a w h
  refine cond_split h rfl (fun hc8 => ?_) (fun hc8 => ?_)
  · skip
    have hlt_i : i < p.length := by have := of_decide_eq_true hc8; omega
    obtain ⟨B_ad, O_ad, rfl⟩ := h.row_addr (ad := ad) (M := cellsOf encT p) mm (by intro e; have := congrArg List.length e; rw [cellsOf_length (k := 7) (fun _ => rfl)] at this; simp only [List.length_nil, Nat.mul_eq_zero] at this; omega)
    have hmem := getD_mem p (d := T0) hlt_i
    have hdg := hd _ hmem
    refine gC h (zk (zs (zb (zs (zr (zm rfl (zp (.indexAddr rfl rfl (ix_47 _ _ _ _ _ (by omega))) (zD rfl mm (cells_lt (k := 7) (by decide) (fun _ => rfl) p i (by omega)) Tryz.isAgg129 Tryz.sizeOf129 (read_cells (k := 7) (fun _ => rfl) ((fun _ => rfl)) p T0 i (by omega)) (.inl rfl) ?_)))))))); clear h; intro a w h
    refine gL h (zz zeroT fun b4 => za rfl (zt' rfl rfl (st_7_0_7 _ _ _ _ _ _ _ _ _ _ _ _ _ _) uu Tryz.sizeOf129 rfl nb rfl ?_)); clear h; intro a w h
    refine gL h (zn (zs (yD mixed_YtealgpgmbflilaaGreatDoor [0, 1, 2, 3, 4, 5, 6, 7, 8, 9, 10, 11, 12, 13, 14, 15, 16, 17, 18, 19, 20, 21, 22] (floatsOK_none (by kernel_rfl)) (yd rfl rfl mr Tryz.isAgg129 Tryz.sizeOf129 (rd_7_0_7 _ _ _ _ _ _ _) ?_)))); clear h
    refine yv [_] rfl rfl Tryz.call111 (C_may (p.getD i T0) (by omega)) (yp rfl (.neq rfl rfl) ?_)
    refine head_bool (fun hc14  => (by exfalso; exact absurd hc14 (by decide))) (fun hc14  => ?_)
    refine yp rfl (.move rfl) (yq rfl rfl rfl (.fieldAddr rfl (fa_129_2 _ _)) (yg rfl rfl rfl rfl mr Tryz.isAgg44 Tryz.sizeOf44 (rd_7_2_5 _ _ _ _ _ _ _) ?_))
    refine head_callVG rfl rfl rfl (by kernel_rfl) (vs := [_]) rfl Tryz.call112 (C_QSign _) (by decide) ?_
    refine yq rfl rfl rfl (.eql rfl rfl) ?_
    refine head_bool (fun hc19  => (by exfalso; exact ok_c (hN.1 _ hmem) hc19)) (fun hc19  => ?_)
    refine yp rfl (.pickF rfl rfl) (yp rfl (.move rfl) (yq rfl rfl rfl (.move rfl) (yq rfl rfl rfl (.gtr rfl rfl) ?_)))
    refine head_bool (fun hc23  => ?_) (fun hc23  => ?_)
    · skip
      have h0i : 0 < i := by have := of_decide_eq_true hc23; omega
      have hdg2 := hd _ (getD_mem p (d := T0) (show i - 1 < p.length by omega))
      refine yq rfl rfl rfl (.move rfl) (yq rfl rfl rfl (.move rfl) (yq rfl rfl rfl (.move rfl) (yq rfl rfl rfl (Pure1.cast (v' := (.int .i64 ((i - 1 : Nat) : Int))) (.sub rfl rfl) (by show Value.int _ _ = Value.int _ _; congr 1; omega)) (yq rfl rfl rfl (.indexAddr rfl rfl (ix_47 _ _ _ _ _ (by omega))) ?_))))
      refine head_loadRowG rfl rfl rfl (by kernel_rfl) rfl mm (cells_lt (k := 7) (by decide) (fun _ => rfl) p (i - 1) (by omega)) Tryz.isAgg129 Tryz.sizeOf129 (read_cells (k := 7) (fun _ => rfl) ((fun _ => rfl)) p T0 (i - 1) (by omega)) (.inl rfl) (by decide) ?_
      refine yg rfl rfl rfl rfl mr Tryz.isAgg129 Tryz.sizeOf129 (rd_7_0_7 _ _ _ _ _ _ _) ?_
      refine head_callVG rfl rfl rfl (by kernel_rfl) (vs := [_, _]) rfl Tryz.call118 (C_porder (p.getD (i - 1) T0) (p.getD i T0) (by omega) (by omega)) (by decide) ?_
      refine yq rfl rfl rfl (.geq rfl rfl) ?_
      refine head_bool (fun hc32  => (by exfalso; have h8 := of_decide_eq_true hc32; have h9 := nrm_adj hN h0i hlt_i; omega)) (fun hc32  => ?_)
      refine yq rfl rfl rfl (.pickT rfl rfl) (yp rfl (.pickF rfl rfl) (yn ?_)); intro a w h
      change Code.wp _ _ _ _ _
      refine cond_false h rfl ?_
      refine gC h (zk (zr (zp (Pure1.cast (v' := (.int .i64 ((i + 1 : Nat) : Int))) (.add rfl rfl) (by show Value.int _ _ = Value.int _ _; congr 1)) (zm rfl (zn ?_))))); clear h; intro a w h
      exact ⟨i + 1, ⟨by omega, ((h.drop sl).factsSub (by simp)).sub sA⟩, by omega⟩
    · skip
      refine yq rfl rfl rfl (.move rfl) (yo 24 rfl rfl rfl rfl (yo 24 rfl rfl rfl rfl (yo 24 rfl rfl rfl rfl (yo 24 rfl rfl rfl rfl (yo 24 rfl rfl rfl rfl (yo 24 rfl rfl rfl rfl (yo 24 rfl rfl rfl rfl (yo 24 rfl rfl rfl rfl (yq rfl rfl rfl (.pickF rfl rfl) (yp rfl (.pickF rfl rfl) (yn ?_))))))))))); intro a w h
      change Code.wp _ _ _ _ _
      refine cond_false h rfl ?_
      refine gC h (zk (zr (zp (Pure1.cast (v' := (.int .i64 ((i + 1 : Nat) : Int))) (.add rfl rfl) (by show Value.int _ _ = Value.int _ _; congr 1)) (zm rfl (zn ?_))))); clear h; intro a w h
      exact ⟨i + 1, ⟨by omega, ((h.drop sl).factsSub (by simp)).sub sA⟩, by omega⟩
  · skip
    have heq_i : p.length = i := by have := of_decide_eq_false hc8; omega
    subst heq_i
    refine gC h (ze (zs (zr (za rfl (zn (zt ?_)))))); clear h; intro a w h
    refine retV h (results1 h rfl (.tmp rfl)) ?_
    rfl

theorem tx_size {d K : Nat} {p : List Tm} (hq : Pq d K p) : ∀ t ∈ norm p, (txtQ (ab t.c)).size ≤ 20 * K + 10 := fun t ht => by
  have h := hq.nsz t ht
  refine txtQ_sizeW _ ?_
  unfold lenQ lenZ at *
  rw [(ab_num t.c).1, (ab_num t.c).2]; exact h
theorem tx_ctr {d K : Nat} {p : List Tm} (hq : Pq d K p) (hK : K ≤ 40000) : ∀ t ∈ norm p, CtrW Tryz.prog 71 [encQ (ab t.c)] [TabF] (.string (txtQ (ab t.c))) := fun t ht => C_QTextG (ab t.c) (by
  have h := hq.nsz t ht
  unfold lenQ lenZ at *
  rw [(ab_num t.c).1, (ab_num t.c).2]; exact Nat.le_trans h hK)
theorem C_TextG (p : List Tm) (ad : Option Addr) (c d K : Nat) (hq : Pq d K p) (hd : d ≤ 12) (hK : K ≤ 40000) : CtrW Tryz.prog 56 [.slice ad p.length c] [Row ad (cellsOf encT p), TabF] (.string (txtP txtQ (norm p))) :=
  C_PTextG p ad c d K (20 * K + 10) [TabF] txtQ hq hd (by omega) (tx_ctr hq hK) (tx_size hq) (by omega) (by omega)
theorem okD_of {K : Nat} {p : List Tm} (hN : Nrm p) (h : Pq 3 K p) : ∀ t ∈ p, OkD t := fun t ht => ⟨by have := h.deg t ht; omega, by have := h.deg t ht; omega, hN.1 t ht⟩
theorem tx_same {K : Nat} {p q : List Tm} (hp : Nrm p) (hq : Nrm q) (h1 : Pq 3 K p) (h2 : Pq 3 K q) (hc : (decide (txtP txtQ (norm p) = txtP txtQ (norm q)) != decide (norm p = norm q)) = true) : False := by
  rw [norm_id hp, norm_id hq] at hc
  have h := txt_inj (okD_of hp h1) (okD_of hq h2)
  simp only [h] at hc
  simp at hc
theorem tx_sub {p q : List Tm} (hp : Nrm p) (hq : Nrm q) (hc : ((((norm (p ++ scaleL ((-1 : Int) : Rat) q)).length : Int) == 0) != decide (norm p = norm q)) = true) : False := by
  have key : norm (p ++ scaleL ((-1 : Int) : Rat) q) = [] ↔ norm p = norm q := by
    constructor
    · intro h
      refine norm_ev (fun x y => ?_)
      have h1 := ev_nrm (p ++ scaleL ((-1 : Int) : Rat) q) x y
      rw [h, ev_append, ev_scaleL, neg1, ev_nil] at h1
      grind
    · intro h
      have h0 : norm (p ++ scaleL ((-1 : Int) : Rat) q) = norm [] := norm_ev (fun x y => by
        rw [ev_append, ev_scaleL, neg1, ev_nil, ← ev_nrm p, h, ev_nrm q]; grind)
      rw [h0]; exact norm_nil
  by_cases h : norm p = norm q
  · rw [decide_eq_true h, key.2 h] at hc; exact absurd hc (by decide)
  · rw [decide_eq_false h] at hc
    have h1 : (norm (p ++ scaleL ((-1 : Int) : Rat) q)).length ≠ 0 := fun e => h (key.1 (List.eq_nil_of_length_eq_zero e))
    have h2 : (((norm (p ++ scaleL ((-1 : Int) : Rat) q)).length : Int) == 0) = false := by rw [beq_eq_false_iff_ne]; omega
    rw [h2] at hc; exact absurd hc (by decide)
theorem tx_alike {p q : List Tm} (hp : Nrm p) (hq : Nrm q) (hc : (decide (norm p = norm q) != decide (p = q)) = true) : False := by
  rw [norm_id hp, norm_id hq] at hc; simp at hc
theorem nrm_of {l G : List Tm} (h : norm l = G) : Nrm G := h ▸ norm_nrm l

theorem C_PolysTexts (l m : List Ti) (ad ad2 : Option Addr) (c c2 : Nat) (hokl : ∀ t ∈ l, OkT t) (hokm : ∀ t ∈ m, OkT t) (hln : l.length ≤ 9223372036854775807) (hmn : m.length ≤ 9223372036854775807) (n : Nat) (hn : n < 256) : CtrW Tryz.prog 12 [.slice ad l.length c, .slice ad2 m.length c2, .int .u8 ((n : Nat) : Int)] [Row ad (cellsOf encTi l), Row ad2 (cellsOf encTi m), TabF] (.bool true) := by
  obtain ⟨r, hr⟩ : ∃ r, n % 5 = r := ⟨_, rfl⟩
  have hr4 : r ≤ 4 := by omega
  refine fn_intro Tryz.func12 rfl Tryz.ntmps12 nb ?_
  intro S w0 a hS h
  refine gC h (zs (zr (za rfl (zn (zs (zs (zr (zm rfl (zp (.builtin [_] rfl (len_slice_22 _ _ _)) (zp (.gtr rfl rfl) ?_)))))))))); clear h; intro a w h
  refine by_bool h (fun hc16 h => ?_) (fun hc16 h => ?_)
  · skip
    refine gL h (zm rfl (zo 17 rfl rfl rfl (zo 17 rfl rfl rfl (zo 17 rfl rfl rfl (zp (.pickT rfl rfl) (zn ?_)))))); clear h; intro a w h
    change Code.wp _ _ _ _ _
    refine cond_true h rfl ?_
    refine gC h (zs (zr (zv [] rfl Tryz.call37 (C_works8) (za rfl (zn (zt ?_)))))); clear h; intro a w h
    refine retV h (results1 h rfl (.tmp rfl)) ?_
    rfl
  · skip
    refine gL h (zm rfl (zq 17 rfl rfl (.move rfl) (zq 17 rfl rfl (.builtin [_] rfl (len_slice_22 _ _ _)) (zq 17 rfl rfl (.gtr rfl rfl) ?_)))); clear h; intro a w h
    refine by_bool h (fun hc20 h => ?_) (fun hc20 h => ?_)
    · skip
      refine gL h (zp (.pickF rfl rfl) (zn ?_)); clear h; intro a w h
      change Code.wp _ _ _ _ _
      refine cond_true h rfl ?_
      refine gC h (zs (zr (zv [] rfl Tryz.call37 (C_works8) (za rfl (zn (zt ?_)))))); clear h; intro a w h
      refine retV h (results1 h rfl (.tmp rfl)) ?_
      rfl
    · skip
      have hll : l.length ≤ 8 := by have := of_decide_eq_false hc16; omega
      have hml : m.length ≤ 8 := by have := of_decide_eq_false hc20; omega
      have hgx := made_Pq (d := 3) hokl hll (by decide) (by decide)
      have hgy := made_Pq (d := 3) hokm hml (by decide) (by decide)
      refine gL h (zp (.pickF rfl rfl) (zn ?_)); clear h; intro a w h
      change Code.wp _ _ _ _ _
      refine cond_false h rfl ?_
      refine gC h (zk (zs (zr (zm rfl (zf [_, _] rfl Tryz.call26 (C_Made l _ _ 3 8 (by assumption) (by omega) (by omega)) ?_))))); clear h; rintro v24 Ψ24 ⟨ad24, c24, rfl, rfl⟩ a w h
      refine gL h (zm rfl (zf [_, _] rfl Tryz.call26 (C_Made m _ _ 3 8 (by assumption) (by omega) (by omega)) ?_)); clear h; rintro v26 Ψ26 ⟨ad26, c26, rfl, rfl⟩ a w h
      obtain ⟨G, hnG⟩ : ∃ G, norm (madeL 3 l) = G := ⟨_, rfl⟩
      rw [hnG] at h hgx
      obtain ⟨H, hnH⟩ : ∃ G, norm (madeL 3 m) = G := ⟨_, rfl⟩
      rw [hnH] at h hgy
      have hNG := nrm_of hnG
      have hNH := nrm_of hnH
      refine gL h (za rfl (za rfl (zn (zs (zr (zm rfl (zm rfl (zw [_, _] rfl Tryz.call40 (C_pSame G H _ _ _ _ 3 3 41 41 hgx hgy (by decide) (by decide) (by decide) (by decide)) (za rfl (zn (zs (zs (zr (zm rfl (zw [_] rfl Tryz.call56 (C_TextG G _ _ 3 41 hgx (by decide) (by decide)) (zm rfl (zw [_] rfl Tryz.call56 (C_TextG H _ _ 3 41 hgy (by decide) (by decide)) (zp (.binOp rfl rfl (fun _ => run_seql _ _ _ _ _)) (zm rfl (zp (.binOp rfl rfl (fun _ => run_bneq _ Tryz.underlying4 _ _ _ _)) ?_)))))))))))))))))))); clear h; intro a w h
      refine by_bool h (fun hc36 h => (by exfalso; exact tx_same hNG hNH hgx hgy hc36)) (fun hc36 h => ?_)
      refine gL h (zm rfl (zq 37 rfl rfl (.move rfl) (zq 37 rfl rfl (.move rfl) ?_))); clear h; intro a w h
      refine wpl_guard 37 h rfl rfl (op_call h (vs := [_, _]) rfl Tryz.call50 (C_pSubF G H _ _ _ _ 3 3 41 41 hgx hgy (by decide) (by decide) (by decide) (by decide)) (by simp) (by decide) ?_); clear h; rintro v40 Ψ40 a w ⟨ad40, c40, rfl, rfl⟩ h
      refine gL h (zq 37 rfl rfl (.builtin [_] rfl (len_slice_47 _ _ _)) (zq 37 rfl rfl (.eql rfl rfl) (zq 37 rfl rfl (.move rfl) (zq 37 rfl rfl (.binOp rfl rfl (fun _ => run_bneq _ Tryz.underlying4 _ _ _ _)) ?_)))); clear h; intro a w h
      refine by_bool h (fun hc44 h => (by exfalso; exact tx_sub hNG hNH hc44)) (fun hc44 h => ?_)
      refine gL h (zp (.pickF rfl rfl) (zm rfl (zq 46 rfl rfl (.move rfl) ?_))); clear h; intro a w h
      refine wpl_guard 46 h rfl rfl (op_callW h (vs := [_]) rfl Tryz.call59 (C_OkN G _ _ hNG (hgx.deg.mono (by decide)) (by have := hgx.len; omega)) (by simp) (by decide) ?_); clear h; intro a w h
      refine gL h (zq 46 rfl rfl (.unOp rfl (un_not _)) ?_); clear h; intro a w h
      refine by_bool h (fun hc49 h => (by exfalso; cases hc49)) (fun hc49 h => ?_)
      refine gL h (zp (.pickF rfl rfl) (zm rfl (zq 51 rfl rfl (.move rfl) (zq 51 rfl rfl (.move rfl) (zq 51 rfl rfl (.move rfl) ?_))))); clear h; intro a w h
      refine wpl_guard 51 h rfl rfl (op_callW h (vs := [_, _]) rfl Tryz.call60 (C_alike G H _ _ _ _ (by have := hgx.len; omega) (by have := hgy.len; omega)) (by simp) (by decide) ?_); clear h; intro a w h
      refine gL h (zq 51 rfl rfl (.binOp rfl rfl (fun _ => run_bneq _ Tryz.underlying4 _ _ _ _)) ?_); clear h; intro a w h
      refine by_bool h (fun hc56 h => (by exfalso; exact tx_alike hNG hNH hc56)) (fun hc56 h => ?_)
      refine gL h (zp (.pickF rfl rfl) (zn ?_)); clear h; intro a w h
      change Code.wp _ _ _ _ _
      refine cond_false h rfl ?_
      refine gC h (zk (zs (zr (zm rfl (zm rfl (zp (Pure1.cast (v' := .int .u8 ((r : Nat) : Int)) (.binOp rfl rfl (fun _ => run_rem _ _ _ _ _ (by decide))) (by rw [show (5 : Int) = ((5 : Nat) : Int) from rfl, tmod_nat, hr])) (zp (.convert rfl (cv_5_3b _ (wrap_i64 _ (by omega) (by omega)))) (zf [_, _] rfl Tryz.call62 (C_Pow G _ _ 3 41 hgx r (by omega) (by decide) (by omega) (by omega) (by decide)) ?_)))))))); clear h; rintro v63 Ψ63 ⟨ad63, c63, rfl, rfl⟩ a w h
      refine gL h (zm rfl (zp (.extract rfl (fun _ => rfl)) (zp (.extract rfl (fun _ => rfl)) (za rfl (za rfl (zn (zs (zr (zv [_] rfl Tryz.call44 (C_QInt _ (by omega) (by omega)) ?_))))))))); clear h; intro a w h
      have hl66 := lenQ_int (1) (by omega) (by omega)
      refine gL h (zf [_] rfl Tryz.call43 (C_ConstF ((1 : Int) : Rat) 2 (lenQ_int 1 (by decide) (by decide)) (by decide)) ?_); clear h; rintro v67 Ψ67 ⟨ad67, c67, rfl, rfl⟩ a w h
      refine gL h (za rfl (zn (zs (zs (zr (za rfl (zn (zb ?_)))))))); clear h; intro a w h
      refine wp_loop_inv (fun (k : Nat) a w => k ≤ r ∧ ∃ (ad1 : Option Addr) (c1 : Nat), St 91 S w0 [(2, .int .u8 (((n : Nat) : Int))), (6, .bool false), (7, .slice ad24 ((G).length) c24), (10, .slice ad63 ((norm (powL G r)).length) c63), (11, .int .i64 0), (12, .slice ad1 ((norm (powL G k)).length) c1), (13, .int .i64 ((k : Nat) : Int))] [] [Row ad1 (cellsOf encT (norm (powL G k))), Row ad63 (cellsOf encT (norm (powL G r))), Row ad24 (cellsOf encT G), TabF] a w) (fun k => r - k) 0 (⟨Nat.zero_le _, _, _, by rw [show norm (powL G 0) = norm [(⟨0, 0, ((1 : Int) : Rat)⟩ : Tm)] from rfl]; exact (h.factsSub (by simp)).sub (subL ⟨rfl, rfl, rfl, rfl, rfl, rfl, rfl, trivial⟩)⟩) ?_; clear h
      rintro k a w ⟨hi_k, ad1, c1, h⟩
      refine gC h (zs (zs (zr (zm rfl (zm rfl (zp (Pure1.cast (v' := .int .u8 ((r : Nat) : Int)) (.binOp rfl rfl (fun _ => run_rem _ _ _ _ _ (by decide))) (by rw [show (5 : Int) = ((5 : Nat) : Int) from rfl, tmod_nat, hr])) (zp (.convert rfl (cv_5_3b _ (wrap_i64 _ (by omega) (by omega)))) (zp (.lss rfl rfl) (zn ?_))))))))); clear h; intro a w h
      change Code.wp _ _ _ _ _
      refine cond_split h rfl (fun hc72 => ?_) (fun hc72 => ?_)
      · skip
        have hlt_k : k < r := by have := of_decide_eq_true hc72; omega
        refine gC h (zk (zs (zb (zr (zm rfl (zm rfl (zf [_, _] rfl Tryz.call38 (C_pMulF (norm (powL G k)) G _ _ _ _ (k * 3) 3 (k * 41 + 4) 41 (hgx.pow k (by omega)) hgx (by omega) (by omega) (by decide)) ?_))))))); clear h; rintro v78 Ψ78 ⟨ad78, c78, rfl, rfl⟩ a w h
        refine gL h (zm rfl (zp (.extract rfl (fun _ => rfl)) (zp (.extract rfl (fun _ => rfl)) (za rfl (zn (zr (zm rfl (zp (Pure1.cast (v' := (.int .i64 ((k + 1 : Nat) : Int))) (.add rfl rfl) (by show Value.int _ _ = Value.int _ _; congr 1)) (za rfl (zn ?_)))))))))); clear h; intro a w h
        have hstep : norm (mulL (norm (powL G k)) G) = norm (powL G (k + 1)) := norm_eq ((Eqv.nrm _).mul Eqv.rfl')
        rw [hstep] at h
        exact ⟨k + 1, ⟨by omega, ad78, c78, by exact (h.factsSub (by simp)).sub sA⟩, by omega⟩
      · skip
        have heq_k : r = k := by have := of_decide_eq_false hc72; omega
        subst heq_k
        have hpw : Pq 12 2000 (norm (powL G r)) := (hgx.pow r (by omega)).mono (by omega) (by omega)
        refine gC h (ze (zs (zr (zm rfl (zp (.eql rfl rfl) ?_))))); clear h; intro a w h
        refine by_bool h (fun hc82 h => ?_) (fun hc82 h => (by exfalso; exact absurd hc82 (by decide)))
        refine gL h (zm rfl (zq 83 rfl rfl (.move rfl) (zq 83 rfl rfl (.move rfl) ?_))); clear h; intro a w h
        refine wpl_guard 83 h rfl rfl (op_callW h (vs := [_, _]) rfl Tryz.call40 (C_pSame (norm (powL G r)) (norm (powL G r)) _ _ _ _ 12 12 2000 2000 hpw hpw (by decide) (by decide) (by decide) (by decide)) (by simp) (by decide) ?_); clear h; intro a w h
        refine by_bool h (fun hc86 h => ?_) (fun hc86 h => (by exfalso; exact clE (rfl) hc86))
        refine gL h (zp (.pickT rfl rfl) (zm rfl ?_)); clear h; intro a w h
        refine wpl_guard 88 h rfl rfl (op_callV h (vs := []) rfl Tryz.call37 (C_works8) (by decide) ?_); clear h; intro a w h
        refine gL h (zp (.pickT rfl rfl) (za rfl (zn (zt ?_)))); clear h; intro a w h
        refine retV h (results1 h rfl (.tmp rfl)) ?_
        rfl
end Go.Proofs.YtealgpgmbflilaaGreatDoor
