/- Written by a program of ours (gen.py) out of short specifications. By an AI agent. -/
import Derived.Test.YtddhlkfpdjmplaaGreatDoorPolyt
set_option linter.unusedVariables false
set_option linter.unusedSimpArgs false
set_option maxRecDepth 4000
namespace Go.Proofs.YtddhlkfpdjmplaaGreatDoor
open Go Go.Proofs Go.Fx
attribute [local irreducible] Oper.wp Code.wp wpList Fx.Head wpOp
theorem bs_46_2_0_1 (x0_0 : Value) (x0_1 : Value) (x0_2 : Value) (x0_3 : Value) (x0_4 : Value) (x0_5 : Value) (x0_6 : Value) (x1_0 : Value) (x1_1 : Value) (x1_2 : Value) (x1_3 : Value) (x1_4 : Value) (x1_5 : Value) (x1_6 : Value) (w : World) : (Instr.buildSlice 46 2 [(0, .agg #[x0_0, x0_1, x0_2, x0_3, x0_4, x0_5, x0_6]), (1, .agg #[x1_0, x1_1, x1_2, x1_3, x1_4, x1_5, x1_6])].toArray).run Tryz.prog w = .ok (.slice (some ⟨w.heap.size, 0, none⟩) 2 2) (w.alloc (.cells #[x0_0, x0_1, x0_2, x0_3, x0_4, x0_5, x0_6, x1_0, x1_1, x1_2, x1_3, x1_4, x1_5, x1_6] 117 (0, 0))) := by
  simp [go_sem]
theorem ctr_eq {P : Program} {f : FuncId} {vs : List Value} {Φ : List SPred} {A B : List Tm} (e : A = B) (h : Ctr P f vs Φ (fun v Ψ => ∃ ad' c', v = .slice ad' (A).length c' ∧ Ψ = [Row ad' (cellsOf encT (A))])) : Ctr P f vs Φ (fun v Ψ => ∃ ad' c', v = .slice ad' (B).length c' ∧ Ψ = [Row ad' (cellsOf encT (B))]) := by subst e; exact h
theorem ctr_eq2 {P : Program} {f : FuncId} {vs : List Value} {Φ : List SPred} {A B : List Tm} (e : A = B) (h : Ctr P f vs Φ (fun v Ψ => ∃ ad' c', v = .tuple #[.slice ad' (A).length c', .int .i64 0] ∧ Ψ = [Row ad' (cellsOf encT (A))])) : Ctr P f vs Φ (fun v Ψ => ∃ ad' c', v = .tuple #[.slice ad' (B).length c', .int .i64 0] ∧ Ψ = [Row ad' (cellsOf encT (B))]) := by subst e; exact h
def OkE (E : List Tm) : Prop := Nrm E ∧ E.length ≤ 20 ∧ ∀ t ∈ E, t.i + t.j ≤ 12 ∧ t.c.num.natAbs < 100 ∧ t.c.den < 100
instance (E : List Tm) : Decidable (OkE E) := by unfold OkE Nrm; infer_instance
theorem lenQ_few {x : Rat} (h1 : x.num.natAbs < 100) (h2 : x.den < 100) : lenQ x ≤ 4 := by
  have a := wds_small (n := x.num.natAbs) (by omega)
  have b := wds_small (n := x.den) (by omega)
  unfold lenQ lenZ; omega
theorem OkE.pq {E : List Tm} (h : OkE E) : Pq 12 101 E := (Pq.raw (fun t ht => (h.2.2 t ht).1) (k := 4) (fun t ht => lenQ_few (h.2.2 t ht).2.1 (h.2.2 t ht).2.2) h.2.1 (by decide)).mono (Nat.le_refl _) (by decide)
theorem pqE {d : Nat} {E : List Tm} (h : OkE E) (hd : ∀ t ∈ E, t.i + t.j ≤ d) : Pq d 101 E := ⟨hd, h.pq.len, h.pq.hgt⟩
theorem norm_to {l E : List Tm} (hE : OkE E) (h : ∀ x y, evP l x y = evP E x y) : norm l = E := by rw [← norm_id hE.1]; exact norm_ev h
theorem C_TE (E : List Tm) (s : ByteArray) (ad : Option Addr) (c : Nat) (h : OkE E) (hs : txtP textQ E = s) : CtrW Tryz.prog 21 [.slice ad E.length c] [Row ad (cellsOf encT E)] (.string s) := by
  have hn := norm_id h.1
  have h1 := C_PTextG E ad c 12 101 100 [] textQ h.pq (by decide) (by decide) (fun t ht => by
    rw [hn] at ht
    obtain ⟨_, h2, h3⟩ := h.2.2 t ht
    exact C_QText (ab t.c) (by rw [(ab_num t.c).1]; simpa using h2) (by rw [(ab_num t.c).2]; exact h3)) (fun t _ => by have := textQ_size (ab t.c); omega) (by decide) (by decide)
  rw [hn, hs] at h1
  exact h1
def hf : Rat := ((-1 : Int) : Rat) / ((2 : Int) : Rat)
theorem hf_eq : ((-1 : Int) : Rat) / ((2 : Int) : Rat) = hf := rfl
theorem hf_K : lenQ hf ≤ 4 := lenQ_few (by decide +kernel) (by decide +kernel)
attribute [local irreducible] hf
def xL : List Tm := [(⟨1, 0, ((1 : Int) : Rat)⟩ : Tm)]
def yL : List Tm := [(⟨0, 1, ((1 : Int) : Rat)⟩ : Tm)]
theorem C_xL : Ctr Tryz.prog 46 [] [] (fun v Ψ => ∃ ad' c', v = .slice ad' xL.length c' ∧ Ψ = [Row ad' (cellsOf encT xL)]) := by
  refine fn_intro Tryz.func46 rfl Tryz.ntmps46 nb ?_
  intro S w0 a hS h
  refine gC h (zs (zr (za rfl (zn (zs (zr (zv [_] rfl Tryz.call45 (C_QInt _ (by omega) (by omega)) ?_))))))); clear h; intro a w h
  have hl1 := lenQ_int (1) (by omega) (by omega)
  refine gL h (zp (.build [(_, _), (_, _)] rfl (bd_117_0_2 _ _ _ _ _ _)) (zB [(_, _)] rfl (bs_47_1_0 _ _ _ _ _ _ _) fun b3 => ?_)); clear h; intro a w h
  replace h := h.shareAll hS (cellsOf encT xL) rfl
  refine gL h (za rfl (zn (zt ?_))); clear h; intro a w h
  exact ret_of (Ψ := [Row _ (cellsOf encT xL)]) h (results1 h rfl (.tmp rfl)) ⟨_, 1, rfl, rfl⟩ (by simp)
theorem C_yL : Ctr Tryz.prog 47 [] [] (fun v Ψ => ∃ ad' c', v = .slice ad' yL.length c' ∧ Ψ = [Row ad' (cellsOf encT yL)]) := by
  refine fn_intro Tryz.func47 rfl Tryz.ntmps47 nb ?_
  intro S w0 a hS h
  refine gC h (zs (zr (za rfl (zn (zs (zr (zv [_] rfl Tryz.call45 (C_QInt _ (by omega) (by omega)) ?_))))))); clear h; intro a w h
  have hl1 := lenQ_int (1) (by omega) (by omega)
  refine gL h (zp (.build [(_, _), (_, _)] rfl (bd_117_1_2 _ _ _ _ _ _)) (zB [(_, _)] rfl (bs_47_1_0 _ _ _ _ _ _ _) fun b3 => ?_)); clear h; intro a w h
  replace h := h.shareAll hS (cellsOf encT yL) rfl
  refine gL h (za rfl (zn (zt ?_))); clear h; intro a w h
  exact ret_of (Ψ := [Row _ (cellsOf encT yL)]) h (results1 h rfl (.tmp rfl)) ⟨_, 1, rfl, rfl⟩ (by simp)
theorem C_term (n : Int) (i j : Nat) (h0 : -9223372036854775808 ≤ n) (h1 : n ≤ 9223372036854775807) : CtrV Tryz.prog 72 [.int .i64 n, .int .i64 ((i : Nat) : Int), .int .i64 ((j : Nat) : Int)] (encT ⟨i, j, ((n : Int) : Rat)⟩) := by
  refine fn_intro Tryz.func72 rfl Tryz.ntmps72 nb ?_
  intro S w0 a hS h
  refine gC h (zs (zr (zz zeroT fun b6 => zn (zs (zr (zm rfl (zm rfl (zm rfl (zv [_] rfl Tryz.call45 (C_QInt _ (by omega) (by omega)) ?_))))))))); clear h; intro a w h
  have hl10 := lenQ_int (n) (by omega) (by omega)
  refine gL h (zp (.build [(_, _), (_, _), (_, _)] rfl (bd_117_0_1_2 _ _ _ _ _ _ _)) (zt' rfl rfl (st_7_0_7 _ _ _ _ _ _ _ _ _ _ _ _ _ _) uu Tryz.sizeOf117 rfl nb rfl ?_)); clear h; intro a w h
  refine wpList_nil (wp_ret ?_)
  refine retV h (results1 h rfl (.cell rfl mr Tryz.isAgg117 Tryz.sizeOf117 (rd_7_0_7 _ _ _ _ _ _ _))) ?_
  rfl
theorem C_termZ (n i j : Int) (h0 : -9223372036854775808 ≤ n) (h1 : n ≤ 9223372036854775807) : CtrV Tryz.prog 72 [.int .i64 n, .int .i64 i, .int .i64 j] (encTz ⟨i, j, ((n : Int) : Rat)⟩) := by
  refine fn_intro Tryz.func72 rfl Tryz.ntmps72 nb ?_
  intro S w0 a hS h
  refine gC h (zs (zr (zz zeroT fun b6 => zn (zs (zr (zm rfl (zm rfl (zm rfl (zv [_] rfl Tryz.call45 (C_QInt _ (by omega) (by omega)) ?_))))))))); clear h; intro a w h
  have hl10 := lenQ_int (n) (by omega) (by omega)
  refine gL h (zp (.build [(_, _), (_, _), (_, _)] rfl (bd_117_0_1_2 _ _ _ _ _ _ _)) (zt' rfl rfl (st_7_0_7 _ _ _ _ _ _ _ _ _ _ _ _ _ _) uu Tryz.sizeOf117 rfl nb rfl ?_)); clear h; intro a w h
  refine wpList_nil (wp_ret ?_)
  refine retV h (results1 h rfl (.cell rfl mr Tryz.isAgg117 Tryz.sizeOf117 (rd_7_0_7 _ _ _ _ _ _ _))) ?_
  rfl
theorem C_read (l : List Tm) (ad : Option Addr) (c K : Nat) (hd : DL 12 l) (hK : KL K l) (hs : l.length * (K + 1) ≤ 50000000000) (hn : l.length ≤ 100000) : Ctr Tryz.prog 71 [.slice ad l.length c] [Row ad (cellsOf encT l)] (fun v Ψ => ∃ ad' c', v = .slice ad' (norm l).length c' ∧ Ψ = [Row ad' (cellsOf encT (norm l))]) := by
  refine fn_intro Tryz.func71 rfl Tryz.ntmps71 nb ?_
  intro S w0 a hS h
  refine gC h (zs (zr (za rfl (zn (zs (zr (zm rfl (zf [_] rfl Tryz.call19 (C_pOfF l _ _ K hd hK hs hn) ?_)))))))); clear h; rintro v7 Ψ7 ⟨ad7, c7, rfl, rfl⟩ a w h
  refine gL h (zm rfl (zp (.extract rfl (fun _ => rfl)) (zp (.extract rfl (fun _ => rfl)) (za rfl (za rfl (zn (zs (zr (zm rfl (za rfl (zn (zt ?_)))))))))))); clear h; intro a w h
  refine ret_of (Ψ := [Row _ (cellsOf encT (norm l))]) h (results1 h rfl (.tmp rfl)) ⟨_, _, rfl, rfl⟩ (by simp)
def rA : List Tm := [(⟨0, 0, hf⟩ : Tm), (⟨1, 0, ((1 : Int) : Rat)⟩ : Tm), (⟨1, 2, ((-3 : Int) : Rat)⟩ : Tm)]
theorem rA_s : DL 12 rA ∧ (∀ t ∈ rA, t.c.num.natAbs < 100 ∧ t.c.den < 100) ∧ rA.length ≤ 3 := by unfold rA DL; decide +kernel
def rB : List Tm := [(⟨2, 0, ((1 : Int) : Rat)⟩ : Tm), (⟨1, 1, ((2 : Int) : Rat)⟩ : Tm), (⟨2, 0, ((-1 : Int) : Rat)⟩ : Tm)]
theorem rB_s : DL 12 rB ∧ (∀ t ∈ rB, t.c.num.natAbs < 100 ∧ t.c.den < 100) ∧ rB.length ≤ 3 := by unfold rB DL; decide +kernel
def r7 : List Tm := [(⟨7, 0, ((1 : Int) : Rat)⟩ : Tm)]
theorem r7_s : DL 12 r7 ∧ (∀ t ∈ r7, t.c.num.natAbs < 100 ∧ t.c.den < 100) ∧ r7.length ≤ 3 := by unfold r7 DL; decide +kernel
def r6 : List Tm := [(⟨0, 6, ((1 : Int) : Rat)⟩ : Tm)]
theorem r6_s : DL 12 r6 ∧ (∀ t ∈ r6, t.c.num.natAbs < 100 ∧ t.c.den < 100) ∧ r6.length ≤ 3 := by unfold r6 DL; decide +kernel
def rH : List Tm := [(⟨1, 1, ((1 : Int) : Rat)⟩ : Tm)]
theorem rH_s : DL 12 rH ∧ (∀ t ∈ rH, t.c.num.natAbs < 100 ∧ t.c.den < 100) ∧ rH.length ≤ 3 := by unfold rH DL; decide +kernel
def rG : List Tm := [(⟨2, 1, ((1 : Int) : Rat)⟩ : Tm)]
theorem rG_s : DL 12 rG ∧ (∀ t ∈ rG, t.c.num.natAbs < 100 ∧ t.c.den < 100) ∧ rG.length ≤ 3 := by unfold rG DL; decide +kernel
def rL : List Tm := [(⟨3, 0, ((1 : Int) : Rat)⟩ : Tm), (⟨0, 2, ((1 : Int) : Rat)⟩ : Tm)]
theorem rL_s : DL 12 rL ∧ (∀ t ∈ rL, t.c.num.natAbs < 100 ∧ t.c.den < 100) ∧ rL.length ≤ 3 := by unfold rL DL; decide +kernel
def rK : List Tm := [(⟨0, 0, ((5 : Int) : Rat)⟩ : Tm), (⟨1, 0, ((1 : Int) : Rat)⟩ : Tm)]
theorem rK_s : DL 12 rK ∧ (∀ t ∈ rK, t.c.num.natAbs < 100 ∧ t.c.den < 100) ∧ rK.length ≤ 3 := by unfold rK DL; decide +kernel
def rM : List Tm := [(⟨2, 0, ((1 : Int) : Rat)⟩ : Tm), (⟨0, 1, ((1 : Int) : Rat)⟩ : Tm)]
theorem rM_s : DL 12 rM ∧ (∀ t ∈ rM, t.c.num.natAbs < 100 ∧ t.c.den < 100) ∧ rM.length ≤ 3 := by unfold rM DL; decide +kernel
def eA : List Tm := [(⟨0, 0, hf⟩ : Tm), (⟨1, 0, ((1 : Int) : Rat)⟩ : Tm), (⟨1, 2, ((-3 : Int) : Rat)⟩ : Tm)]
theorem eA_ok : OkE eA := by unfold eA; decide +kernel
def eB : List Tm := [(⟨1, 1, ((2 : Int) : Rat)⟩ : Tm)]
theorem eB_ok : OkE eB := by unfold eB; decide +kernel
def e7 : List Tm := [(⟨7, 0, ((1 : Int) : Rat)⟩ : Tm)]
theorem e7_ok : OkE e7 := by unfold e7; decide +kernel
def e6 : List Tm := [(⟨0, 6, ((1 : Int) : Rat)⟩ : Tm)]
theorem e6_ok : OkE e6 := by unfold e6; decide +kernel
def eH0 : List Tm := [(⟨1, 1, ((1 : Int) : Rat)⟩ : Tm)]
theorem eH0_ok : OkE eH0 := by unfold eH0; decide +kernel
def eG : List Tm := [(⟨2, 1, ((1 : Int) : Rat)⟩ : Tm)]
theorem eG_ok : OkE eG := by unfold eG; decide +kernel
def eL0 : List Tm := [(⟨0, 2, ((1 : Int) : Rat)⟩ : Tm), (⟨3, 0, ((1 : Int) : Rat)⟩ : Tm)]
theorem eL0_ok : OkE eL0 := by unfold eL0; decide +kernel
def eK : List Tm := [(⟨0, 0, ((5 : Int) : Rat)⟩ : Tm), (⟨1, 0, ((1 : Int) : Rat)⟩ : Tm)]
theorem eK_ok : OkE eK := by unfold eK; decide +kernel
def eM : List Tm := [(⟨0, 1, ((1 : Int) : Rat)⟩ : Tm), (⟨2, 0, ((1 : Int) : Rat)⟩ : Tm)]
theorem eM_ok : OkE eM := by unfold eM; decide +kernel
def eS : List Tm := [(⟨1, 0, ((1 : Int) : Rat)⟩ : Tm), (⟨0, 1, ((1 : Int) : Rat)⟩ : Tm)]
theorem eS_ok : OkE eS := by unfold eS; decide +kernel
def eD : List Tm := [(⟨1, 0, ((1 : Int) : Rat)⟩ : Tm), (⟨0, 1, ((-1 : Int) : Rat)⟩ : Tm)]
theorem eD_ok : OkE eD := by unfold eD; decide +kernel
def eC : List Tm := [(⟨2, 0, ((1 : Int) : Rat)⟩ : Tm), (⟨0, 2, ((-1 : Int) : Rat)⟩ : Tm)]
theorem eC_ok : OkE eC := by unfold eC; decide +kernel
def e1 : List Tm := [(⟨0, 0, ((1 : Int) : Rat)⟩ : Tm)]
theorem e1_ok : OkE e1 := by unfold e1; decide +kernel
def eP : List Tm := [(⟨0, 0, ((1 : Int) : Rat)⟩ : Tm), (⟨1, 0, ((1 : Int) : Rat)⟩ : Tm)]
theorem eP_ok : OkE eP := by unfold eP; decide +kernel
def eQ : List Tm := [(⟨0, 0, ((1 : Int) : Rat)⟩ : Tm), (⟨1, 0, ((3 : Int) : Rat)⟩ : Tm), (⟨2, 0, ((3 : Int) : Rat)⟩ : Tm), (⟨3, 0, ((1 : Int) : Rat)⟩ : Tm)]
theorem eQ_ok : OkE eQ := by unfold eQ; decide +kernel
def eH : List Tm := [(⟨0, 1, ((2 : Int) : Rat)⟩ : Tm), (⟨1, 1, ((1 : Int) : Rat)⟩ : Tm)]
theorem eH_ok : OkE eH := by unfold eH; decide +kernel
def eL : List Tm := [(⟨0, 0, ((2 : Int) : Rat)⟩ : Tm), (⟨1, 0, ((6 : Int) : Rat)⟩ : Tm)]
theorem eL_ok : OkE eL := by unfold eL; decide +kernel
theorem read_to (l E : List Tm) {ad : Option Addr} {c : Nat} (hs : DL 12 l ∧ (∀ t ∈ l, t.c.num.natAbs < 100 ∧ t.c.den < 100) ∧ l.length ≤ 3) (he : norm l = E) : Ctr Tryz.prog 71 [.slice ad l.length c] [Row ad (cellsOf encT l)] (fun v Ψ => ∃ ad' c', v = .slice ad' (E).length c' ∧ Ψ = [Row ad' (cellsOf encT (E))]) :=
  ctr_eq he (C_read l ad c 4 hs.1 (fun t ht => lenQ_few (hs.2.1 t ht).1 (hs.2.1 t ht).2) (by have := hs.2.2; omega) (by have := hs.2.2; omega))
theorem of_to (l E : List Tm) {ad : Option Addr} {c : Nat} (hs : DL 12 l ∧ (∀ t ∈ l, t.c.num.natAbs < 100 ∧ t.c.den < 100) ∧ l.length ≤ 3) (he : norm l = E) : Ctr Tryz.prog 19 [.slice ad l.length c] [Row ad (cellsOf encT l)] (fun v Ψ => ∃ ad' c', v = .tuple #[.slice ad' (E).length c', .int .i64 0] ∧ Ψ = [Row ad' (cellsOf encT (E))]) :=
  ctr_eq2 he (C_pOfF l ad c 4 hs.1 (fun t ht => lenQ_few (hs.2.1 t ht).1 (hs.2.1 t ht).2) (by have := hs.2.2; omega) (by have := hs.2.2; omega))
theorem i1 : ((1 : Int) : Rat) = 1 := rfl
theorem i0 : ((0 : Int) : Rat) = 0 := rfl
theorem i2 : ((2 : Int) : Rat) = 2 := rfl
theorem i3 : ((3 : Int) : Rat) = 3 := rfl
theorem i5 : ((5 : Int) : Rat) = 5 := rfl
theorem i6 : ((6 : Int) : Rat) = 6 := rfl
theorem im1 : ((-1 : Int) : Rat) = -1 := rfl
theorem nB : norm rB = eB := norm_to eB_ok (fun x y => by
  simp only [rB, eB, evP, lin, i1, i2, im1]; grind)
theorem nL0 : norm rL = eL0 := norm_to eL0_ok (fun x y => by simp only [rL, eL0, evP, lin, i1]; grind)
theorem nM : norm rM = eM := norm_to eM_ok (fun x y => by simp only [rM, eM, evP, lin, i1]; grind)
theorem nS : norm (xL ++ yL) = eS := norm_to eS_ok (fun x y => by simp only [ev_append]; simp only [xL, yL, eS, evP, lin, i1]; grind)
theorem nD : norm (xL ++ scaleL ((-1 : Int) : Rat) yL) = eD := norm_to eD_ok (fun x y => by simp only [ev_append, ev_scaleL]; simp only [xL, yL, eD, evP, lin, i1, im1]; grind)
theorem nC : norm (mulL eS eD) = eC := norm_to eC_ok (fun x y => by simp only [ev_mulL]; simp only [eS, eD, eC, evP, lin, i1, im1, Rat.pow_succ, Rat.pow_zero]; grind)
theorem nP : norm (xL ++ e1) = eP := norm_to eP_ok (fun x y => by simp only [ev_append]; simp only [xL, e1, eP, evP, lin, i1]; grind)
theorem nQ : norm (powL eP 3) = eQ := norm_to eQ_ok (fun x y => by simp only [ev_powL]; simp only [eP, eQ, evP, lin, i1, i3, Rat.pow_succ, Rat.pow_zero]; grind)
theorem nH : norm (shL eH0 ((0 : Int) : Rat) ((1 : Int) : Rat) ((0 : Int) : Rat) ((1 : Int) : Rat) ((0 : Int) : Rat) ((2 : Int) : Rat)) = eH := norm_to eH_ok (fun x y => by
  simp only [ev_shL]; simp only [eH0, eH, evP, lin, i1, i0, i2, Rat.pow_succ, Rat.pow_zero]; grind)
theorem nG : norm (dxL eG) = eB := norm_to eB_ok (fun x y => by simp only [eG, eB, dxL, List.map, evP, lin, i1, i2, cast_one]; simp only [show ((2 : Nat) - 1) = 1 from rfl, show (((2 : Nat) : Int) : Rat) = 2 from rfl]; grind)
theorem nL : norm (norm (dxL (norm (dxL eL0))) ++ norm (dyL (norm (dyL eL0)))) = eL := norm_to eL_ok (fun x y => by
  simp only [ev_append, ev_nrm, ev_dx_nrm, ev_dy_nrm]
  simp only [eL0, eL, dxL, dyL, List.map, evP, lin, i1, i2, i6]
  simp only [show ((2 : Nat) - 1) = 1 from rfl, show ((3 : Nat) - 1) = 2 from rfl, show ((1 : Nat) - 1) = 0 from rfl, show ((0 : Nat) - 1) = 0 from rfl, show (((2 : Nat) : Int) : Rat) = 2 from rfl, show (((3 : Nat) : Int) : Rat) = 3 from rfl, cast_one, cast_zero, Rat.pow_succ, Rat.pow_zero]; grind)
theorem nA : norm rA = eA := norm_id eA_ok.1
theorem n7 : norm r7 = e7 := norm_id e7_ok.1
theorem n6 : norm r6 = e6 := norm_id e6_ok.1
theorem nH0 : norm rH = eH0 := norm_id eH0_ok.1
theorem nG0 : norm rG = eG := norm_id eG_ok.1
theorem nK : norm rK = eK := norm_id eK_ok.1
theorem n1 : norm [(⟨0, 0, ((1 : Int) : Rat)⟩ : Tm)] = e1 := norm_id e1_ok.1
theorem teA : txtP textQ eA = ⟨#[45, 49, 47, 50, 32, 43, 32, 120, 32, 45, 32, 51, 42, 120, 42, 121, 94, 50]⟩ := by decide +kernel
theorem teB : txtP textQ eB = ⟨#[50, 42, 120, 42, 121]⟩ := by decide +kernel
theorem teC : txtP textQ eC = ⟨#[120, 94, 50, 32, 45, 32, 121, 94, 50]⟩ := by decide +kernel
theorem teQ : txtP textQ eQ = ⟨#[49, 32, 43, 32, 51, 42, 120, 32, 43, 32, 51, 42, 120, 94, 50, 32, 43, 32, 120, 94, 51]⟩ := by decide +kernel
theorem teL : txtP textQ eL = ⟨#[50, 32, 43, 32, 54, 42, 120]⟩ := by decide +kernel
theorem teH : txtP textQ eH = ⟨#[50, 42, 121, 32, 43, 32, 120, 42, 121]⟩ := by decide +kernel
theorem xL_ok : OkE xL := by unfold xL; decide +kernel
theorem yL_ok : OkE yL := by unfold yL; decide +kernel
set_option maxHeartbeats 1000000 in
theorem C_works8 : CtrV Tryz.prog 18 [] (.bool true) := by
  refine fn_intro Tryz.func18 rfl Tryz.ntmps18 nb ?_
  intro S w0 a hS h
  replace h := h.derive (R := Row none (cellsOf encT [])) (fun X _ hne => absurd rfl hne)
  refine gC h (zs (zr (za rfl (zn (zs (zr (zv [_, _] rfl Tryz.call60 (C_QOf _ _ (by omega) (by omega) (by omega) (by omega) (by omega)) ?_))))))); clear h; intro a w h
  have hl21 := lenQ_of ((-1)) (2) (by omega) (by omega) (by omega) (by omega)
  rw [hf_eq] at h
  refine gL h (zm rfl (zp (.extract rfl (fun _ => rfl)) (zp (.extract rfl (fun _ => rfl)) (zz zeroQ fun b1 => zt' rfl rfl (st_5_0_5 _ _ _ _ _ _ _ _ _ _) uu Tryz.sizeOf44 rfl nb rfl ?_)))); clear h; intro a w h
  refine gL h (za rfl (zn (zs (yD mixed_YtddhlkfpdjmplaaGreatDoor [0, 1, 2, 3, 4, 5, 6] (floatsOK_none (by kernel_rfl)) (yd rfl rfl mr Tryz.isAgg44 Tryz.sizeOf44 (rd_5_0_5 _ _ _ _ _) ?_))))); clear h
  refine yp rfl (.build [(_, _)] rfl (bd_117_2 _ _ _ _ _)) (yv [_, _, _] rfl rfl Tryz.call72 (C_term 1 1 0 (by decide) (by decide)) (yv [_, _, _] rfl rfl Tryz.call72 (C_term (-3) 1 2 (by decide) (by decide)) ?_))
  refine head_buildRow hS rfl (by kernel_rfl) [(_, _), (_, _), (_, _)] rfl (bs_46_3_0_1_2 _ _ _ _ _ _ _ _ _ _ _ _ _ _ _ _ _ _ _ _ _) (cellsOf encT rA) rfl (by decide) ?_; intro b28
  refine yf [_] rfl rfl Tryz.call71 (read_to rA eA rA_s nA) ?_; rintro v29 Ψ29 ⟨ad29, c29, rfl, rfl⟩
  refine yp rfl (.assign rfl) (yn (zs (zr (zv [_, _, _] rfl Tryz.call72 (C_term 1 2 0 (by decide) (by decide)) (zv [_, _, _] rfl Tryz.call72 (C_term 2 1 1 (by decide) (by decide)) (zv [_, _, _] rfl Tryz.call72 (C_term (-1) 2 0 (by decide) (by decide)) (zB [(_, _), (_, _), (_, _)] rfl (bs_46_3_0_1_2 _ _ _ _ _ _ _ _ _ _ _ _ _ _ _ _ _ _ _ _ _) fun b34 => ?_))))))); intro a w h
  replace h := h.shareAll hS (cellsOf encT rB) rfl
  refine gL h (zf [_] rfl Tryz.call19 (of_to rB eB rB_s nB) ?_); clear h; rintro v35 Ψ35 ⟨ad35, c35, rfl, rfl⟩ a w h
  refine gL h (zm rfl (zp (.extract rfl (fun _ => rfl)) (zp (.extract rfl (fun _ => rfl)) (za rfl (za rfl (zn (zs (zr (zv [_, _, _] rfl Tryz.call72 (C_termZ 1 (-1) 0 (by decide) (by decide)) (zB [(_, _)] rfl (bs_46_1_0 _ _ _ _ _ _ _) fun b40 => ?_)))))))))); clear h; intro a w h
  replace h := h.shareAll hS (cellsOf encTz ([(⟨-1, 0, ((1 : Int) : Rat)⟩ : Tz)])) rfl
  refine gL h (zw [_] rfl Tryz.call19 (C_pOfErr [(⟨-1, 0, ((1 : Int) : Rat)⟩ : Tz)] _ _ (by decide) (by decide +kernel)) (zm rfl (zp (.extract rfl (fun _ => rfl)) (zp (.extract rfl (fun _ => rfl)) (za rfl (za rfl (zn (zs (zr (zv [_, _, _] rfl Tryz.call72 (C_termZ 0 (13) 0 (by decide) (by decide)) (zB [(_, _)] rfl (bs_46_1_0 _ _ _ _ _ _ _) fun b46 => ?_))))))))))); clear h; intro a w h
  replace h := h.shareAll hS (cellsOf encTz ([(⟨13, 0, ((0 : Int) : Rat)⟩ : Tz)])) rfl
  refine gL h (zw [_] rfl Tryz.call19 (C_pOfErr [(⟨13, 0, ((0 : Int) : Rat)⟩ : Tz)] _ _ (by decide) (by decide +kernel)) (zm rfl (zp (.extract rfl (fun _ => rfl)) (zp (.extract rfl (fun _ => rfl)) (za rfl (za rfl (zn (zs (zr (zf [] rfl Tryz.call46 (C_xL) ?_)))))))))); clear h; rintro v51 Ψ51 ⟨ad51, c51, rfl, rfl⟩ a w h
  refine gL h (zf [] rfl Tryz.call47 (C_yL) ?_); clear h; rintro v52 Ψ52 ⟨ad52, c52, rfl, rfl⟩ a w h
  refine gL h (zf [_, _] rfl Tryz.call73 (ctr_eq nS (C_pAddF xL yL _ _ _ _ 1 1 101 101 (pqE (d := 1) xL_ok (by unfold xL; decide)) (pqE (d := 1) yL_ok (by unfold yL; decide)) (by decide) (by decide) (by decide) (by decide))) ?_); clear h; rintro v53 Ψ53 ⟨ad53, c53, rfl, rfl⟩ a w h
  refine gL h (zf [] rfl Tryz.call46 (C_xL) ?_); clear h; rintro v54 Ψ54 ⟨ad54, c54, rfl, rfl⟩ a w h
  refine gL h (zf [] rfl Tryz.call47 (C_yL) ?_); clear h; rintro v55 Ψ55 ⟨ad55, c55, rfl, rfl⟩ a w h
  refine gL h (zf [_, _] rfl Tryz.call74 (ctr_eq nD (C_pSubF xL yL _ _ _ _ 1 1 101 101 (pqE (d := 1) xL_ok (by unfold xL; decide)) (pqE (d := 1) yL_ok (by unfold yL; decide)) (by decide) (by decide) (by decide) (by decide))) ?_); clear h; rintro v56 Ψ56 ⟨ad56, c56, rfl, rfl⟩ a w h
  refine gL h (zf [_, _] rfl Tryz.call48 (ctr_eq2 nC (C_pMulF eS eD _ _ _ _ 1 1 101 101 (pqE (d := 1) eS_ok (by unfold eS; decide)) (pqE (d := 1) eD_ok (by unfold eD; decide)) (by decide) (by decide) (by decide))) ?_); clear h; rintro v57 Ψ57 ⟨ad57, c57, rfl, rfl⟩ a w h
  refine gL h (zm rfl (zp (.extract rfl (fun _ => rfl)) (zp (.extract rfl (fun _ => rfl)) (za rfl (za rfl (zn (zs (zr (zf [] rfl Tryz.call46 (C_xL) ?_))))))))); clear h; rintro v61 Ψ61 ⟨ad61, c61, rfl, rfl⟩ a w h
  refine gL h (zv [_] rfl Tryz.call45 (C_QInt _ (by omega) (by omega)) ?_); clear h; intro a w h
  have hl62 := lenQ_int (1) (by omega) (by omega)
  refine gL h (zf [_] rfl Tryz.call44 (ctr_eq n1 (C_ConstF ((1 : Int) : Rat) 2 (lenQ_int 1 (by decide) (by decide)) (by decide))) ?_); clear h; rintro v63 Ψ63 ⟨ad63, c63, rfl, rfl⟩ a w h
  refine gL h (zf [_, _] rfl Tryz.call73 (ctr_eq nP (C_pAddF xL e1 _ _ _ _ 1 1 101 101 (pqE (d := 1) xL_ok (by unfold xL; decide)) (pqE (d := 1) e1_ok (by unfold e1; decide)) (by decide) (by decide) (by decide) (by decide))) ?_); clear h; rintro v64 Ψ64 ⟨ad64, c64, rfl, rfl⟩ a w h
  refine gL h (zf [_, _] rfl Tryz.call75 (ctr_eq2 nQ (C_Pow eP _ _ 1 101 (pqE (d := 1) eP_ok (by unfold eP; decide)) 3 (by decide) (by decide) (by decide) (by decide) (by decide))) ?_); clear h; rintro v65 Ψ65 ⟨ad65, c65, rfl, rfl⟩ a w h
  refine gL h (zm rfl (zp (.extract rfl (fun _ => rfl)) (zp (.extract rfl (fun _ => rfl)) (za rfl (za rfl (zn (zs (zr (zv [_, _, _] rfl Tryz.call72 (C_term 1 7 0 (by decide) (by decide)) (zB [(_, _)] rfl (bs_46_1_0 _ _ _ _ _ _ _) fun b70 => ?_)))))))))); clear h; intro a w h
  replace h := h.shareAll hS (cellsOf encT r7) rfl
  refine gL h (zf [_] rfl Tryz.call71 (read_to r7 e7 r7_s n7) ?_); clear h; rintro v71 Ψ71 ⟨ad71, c71, rfl, rfl⟩ a w h
  refine gL h (zv [_, _, _] rfl Tryz.call72 (C_term 1 0 6 (by decide) (by decide)) (zB [(_, _)] rfl (bs_46_1_0 _ _ _ _ _ _ _) fun b73 => ?_)); clear h; intro a w h
  replace h := h.shareAll hS (cellsOf encT r6) rfl
  refine gL h (zf [_] rfl Tryz.call71 (read_to r6 e6 r6_s n6) ?_); clear h; rintro v74 Ψ74 ⟨ad74, c74, rfl, rfl⟩ a w h
  refine gL h (zw [_, _] rfl Tryz.call48 (C_pMulErr e7 e6 _ _ _ _ 7 6 101 101 (pqE (d := 7) e7_ok (by unfold e7; decide)) (pqE (d := 6) e6_ok (by unfold e6; decide)) (by decide) (by decide) (by decide) (by decide) (by rw [norm_id e7_ok.1]; unfold e7; simp) (by rw [norm_id e6_ok.1]; unfold e6; simp) (by rw [norm_id e7_ok.1, norm_id e6_ok.1]; decide)) (zm rfl (zp (.extract rfl (fun _ => rfl)) (zp (.extract rfl (fun _ => rfl)) (za rfl (za rfl (zn (zs (zs (zr (zm rfl (zw [_] rfl Tryz.call21 (C_TE eA _ _ _ eA_ok teA) (zp (.binOp rfl rfl (fun _ => run_sneq _ _ _ _ _)) ?_))))))))))))); clear h; intro a w h
  refine by_bool h (fun hc80 h => (by exfalso; exact absurd hc80 (by decide +kernel))) (fun hc80 h => ?_)
  refine gL h (zm rfl (zq 81 rfl rfl (.move rfl) ?_)); clear h; intro a w h
  refine wpl_guard 81 h rfl rfl (op_callW h (vs := [_]) rfl Tryz.call21 (C_TE eB _ _ _ eB_ok teB) (by simp) (by decide) ?_); clear h; intro a w h
  refine gL h (zq 81 rfl rfl (.binOp rfl rfl (fun _ => run_sneq _ _ _ _ _)) ?_); clear h; intro a w h
  refine by_bool h (fun hc84 h => (by exfalso; exact absurd hc84 (by decide +kernel))) (fun hc84 h => ?_)
  refine gL h (zp (.pickF rfl rfl) (zm rfl (zq 86 rfl rfl (.move rfl) (zq 86 rfl rfl (.neq rfl rfl) ?_)))); clear h; intro a w h
  refine by_bool h (fun hc88 h => (by exfalso; exact absurd hc88 (by decide +kernel))) (fun hc88 h => ?_)
  refine gL h (zp (.pickF rfl rfl) (zm rfl (zq 90 rfl rfl (.move rfl) (zq 90 rfl rfl (.neq rfl rfl) ?_)))); clear h; intro a w h
  refine by_bool h (fun hc92 h => (by exfalso; exact absurd hc92 (by decide +kernel))) (fun hc92 h => ?_)
  refine gL h (zp (.pickF rfl rfl) (zm rfl (zq 94 rfl rfl (.move rfl) (zq 94 rfl rfl (.neq rfl rfl) ?_)))); clear h; intro a w h
  refine by_bool h (fun hc96 h => (by exfalso; exact absurd hc96 (by decide +kernel))) (fun hc96 h => ?_)
  refine gL h (zp (.pickF rfl rfl) (zm rfl (zq 98 rfl rfl (.move rfl) ?_))); clear h; intro a w h
  refine wpl_guard 98 h rfl rfl (op_callW h (vs := [_]) rfl Tryz.call21 (C_TE eC _ _ _ eC_ok teC) (by simp) (by decide) ?_); clear h; intro a w h
  refine gL h (zq 98 rfl rfl (.binOp rfl rfl (fun _ => run_sneq _ _ _ _ _)) ?_); clear h; intro a w h
  refine by_bool h (fun hc101 h => (by exfalso; exact absurd hc101 (by decide +kernel))) (fun hc101 h => ?_)
  refine gL h (zp (.pickF rfl rfl) (zm rfl (zq 103 rfl rfl (.move rfl) (zq 103 rfl rfl (.neq rfl rfl) ?_)))); clear h; intro a w h
  refine by_bool h (fun hc105 h => (by exfalso; exact absurd hc105 (by decide +kernel))) (fun hc105 h => ?_)
  refine gL h (zp (.pickF rfl rfl) (zm rfl (zq 107 rfl rfl (.move rfl) ?_))); clear h; intro a w h
  refine wpl_guard 107 h rfl rfl (op_callW h (vs := [_]) rfl Tryz.call21 (C_TE eQ _ _ _ eQ_ok teQ) (by simp) (by decide) ?_); clear h; intro a w h
  refine gL h (zq 107 rfl rfl (.binOp rfl rfl (fun _ => run_sneq _ _ _ _ _)) ?_); clear h; intro a w h
  refine by_bool h (fun hc110 h => (by exfalso; exact absurd hc110 (by decide +kernel))) (fun hc110 h => ?_)
  refine gL h (zp (.pickF rfl rfl) (zm rfl (zq 112 rfl rfl (.move rfl) (zq 112 rfl rfl (.neq rfl rfl) ?_)))); clear h; intro a w h
  refine by_bool h (fun hc114 h => (by exfalso; exact absurd hc114 (by decide +kernel))) (fun hc114 h => ?_)
  refine gL h (zp (.pickF rfl rfl) (zm rfl (zq 116 rfl rfl (.move rfl) (zq 116 rfl rfl (.neq rfl rfl) ?_)))); clear h; intro a w h
  refine by_bool h (fun hc118 h => (by exfalso; exact absurd hc118 (by decide +kernel))) (fun hc118 h => ?_)
  refine gL h (zp (.pickF rfl rfl) (zn ?_)); clear h; intro a w h
  change Code.wp _ _ _ _ _
  refine cond_false h rfl ?_
  refine gC h (zk (zs (zr (zv [_] rfl Tryz.call45 (C_QInt _ (by omega) (by omega)) ?_)))); clear h; intro a w h
  have hl120 := lenQ_int (1) (by omega) (by omega)
  refine gL h (zv [_] rfl Tryz.call45 (C_QInt _ (by omega) (by omega)) ?_); clear h; intro a w h
  have hl121 := lenQ_int (0) (by omega) (by omega)
  refine gL h (zv [_] rfl Tryz.call45 (C_QInt _ (by omega) (by omega)) ?_); clear h; intro a w h
  have hl122 := lenQ_int (2) (by omega) (by omega)
  refine gL h (zz zeroQ fun b16 => zz zeroQ fun b17 => zz zeroQ fun b18 => zt' rfl rfl (st_5_0_5 _ _ _ _ _ _ _ _ _ _) uu Tryz.sizeOf44 rfl nb rfl ?_); clear h; intro a w h
  refine gL h (zt' rfl rfl (st_5_0_5 _ _ _ _ _ _ _ _ _ _) uu Tryz.sizeOf44 rfl nb rfl ?_); clear h; intro a w h
  refine gL h (zt' rfl rfl (st_5_0_5 _ _ _ _ _ _ _ _ _ _) uu Tryz.sizeOf44 rfl nb rfl ?_); clear h; intro a w h
  refine gL h (zn (zs (yD mixed_YtddhlkfpdjmplaaGreatDoor [3, 4, 5, 6, 7, 8, 0, 1, 2, 9, 10] (floatsOK_none (by kernel_rfl)) (yd rfl rfl mr Tryz.isAgg44 Tryz.sizeOf44 (rd_5_0_5 _ _ _ _ _) ?_)))); clear h
  refine yd rfl rfl mr Tryz.isAgg44 Tryz.sizeOf44 (rd_5_0_5 _ _ _ _ _) ?_
  refine yd rfl rfl mr Tryz.isAgg44 Tryz.sizeOf44 (rd_5_0_5 _ _ _ _ _) ?_
  refine yd rfl rfl mr Tryz.isAgg44 Tryz.sizeOf44 (rd_5_0_5 _ _ _ _ _) ?_
  refine yd rfl rfl mr Tryz.isAgg44 Tryz.sizeOf44 (rd_5_0_5 _ _ _ _ _) ?_
  refine yd rfl rfl mr Tryz.isAgg44 Tryz.sizeOf44 (rd_5_0_5 _ _ _ _ _) ?_
  refine yv [_, _, _] rfl rfl Tryz.call72 (C_term 1 1 1 (by decide) (by decide)) ?_
  refine head_buildRow hS rfl (by kernel_rfl) [(_, _)] rfl (bs_46_1_0 _ _ _ _ _ _ _) (cellsOf encT rH) rfl (by decide) ?_; intro b124
  refine yf [_] rfl rfl Tryz.call71 (read_to rH eH0 rH_s nH0) ?_; rintro v125 Ψ125 ⟨ad125, c125, rfl, rfl⟩
  refine yf [_, _, _, _, _, _, _] rfl rfl Tryz.call58 (ctr_eq nH (C_Shift eH0 _ _ 2 101 (pqE (d := 2) eH0_ok (by unfold eH0; decide)) ((0 : Int) : Rat) ((1 : Int) : Rat) ((0 : Int) : Rat) ((1 : Int) : Rat) ((0 : Int) : Rat) ((2 : Int) : Rat) 4 (by decide) (by omega) (by omega) (by omega) (by omega) (by omega) (by omega) (by decide) (by decide))) ?_; rintro v132 Ψ132 ⟨ad132, c132, rfl, rfl⟩
  refine yp rfl (.assign rfl) (yn (zs (zs (yD mixed_YtddhlkfpdjmplaaGreatDoor [0, 1, 2, 3, 4, 5, 6, 7, 8, 9, 10, 11, 12, 13, 14, 15, 16, 17, 18, 19, 20, 21, 22, 23, 24, 30, 25, 26, 27, 28, 29, 31, 32] (floatsOK_none (by kernel_rfl)) (yv [_, _, _] rfl rfl Tryz.call72 (C_term 1 2 1 (by decide) (by decide)) ?_)))))
  refine head_buildRow hS rfl (by kernel_rfl) [(_, _)] rfl (bs_46_1_0 _ _ _ _ _ _ _) (cellsOf encT rG) rfl (by decide) ?_; intro b134
  refine yf [_] rfl rfl Tryz.call71 (read_to rG eG rG_s nG0) ?_; rintro v135 Ψ135 ⟨ad135, c135, rfl, rfl⟩
  refine yf [_] rfl rfl Tryz.call76 (ctr_eq nG (C_DxF eG _ _ 3 101 (pqE (d := 3) eG_ok (by unfold eG; decide)) (by decide) (by decide))) ?_; rintro v136 Ψ136 ⟨ad136, c136, rfl, rfl⟩
  refine yw [_] rfl rfl Tryz.call21 (C_TE eB _ _ _ eB_ok teB) (yp rfl (.binOp rfl rfl (fun _ => run_sneq _ _ _ _ _)) ?_)
  refine head_bool (fun hc138  => (by exfalso; exact absurd hc138 (by decide +kernel))) (fun hc138  => ?_)
  refine yp rfl (.move rfl) ?_
  refine head_callVG rfl rfl rfl (by kernel_rfl) (vs := [_, _, _]) rfl Tryz.call72 (C_term 1 3 0 (by decide) (by decide)) (by decide) ?_
  refine head_callVG rfl rfl rfl (by kernel_rfl) (vs := [_, _, _]) rfl Tryz.call72 (C_term 1 0 2 (by decide) (by decide)) (by decide) ?_
  refine head_buildRowG hS rfl rfl rfl (by kernel_rfl) [(_, _), (_, _)] rfl (bs_46_2_0_1 _ _ _ _ _ _ _ _ _ _ _ _ _ _) (cellsOf encT rL) rfl (by decide) ?_; intro b142
  refine head_callG rfl rfl rfl (by kernel_rfl) (vs := [_]) rfl Tryz.call71 (read_to rL eL0 rL_s nL0) (by simp) (by decide) ?_; rintro v143 Ψ143 ⟨ad143, c143, rfl, rfl⟩
  refine head_callG rfl rfl rfl (by kernel_rfl) (vs := [_]) rfl Tryz.call77 (ctr_eq nL (C_Laplace eL0 _ _ 3 101 (pqE (d := 3) eL0_ok (by unfold eL0; decide)) (by decide) (by decide))) (by simp) (by decide) ?_; rintro v144 Ψ144 ⟨ad144, c144, rfl, rfl⟩
  refine head_callWG rfl rfl rfl (by kernel_rfl) (vs := [_]) rfl Tryz.call21 (C_TE eL _ _ _ eL_ok teL) (by simp) (by decide) ?_
  refine yq rfl rfl rfl (.binOp rfl rfl (fun _ => run_sneq _ _ _ _ _)) ?_
  refine head_bool (fun hc146  => (by exfalso; exact absurd hc146 (by decide +kernel))) (fun hc146  => ?_)
  refine yp rfl (.pickF rfl rfl) (yp rfl (.move rfl) (yq rfl rfl rfl (.move rfl) ?_))
  refine head_callWG rfl rfl rfl (by kernel_rfl) (vs := [_]) rfl Tryz.call21 (C_TE eH _ _ _ eH_ok teH) (by simp) (by decide) ?_
  refine yq rfl rfl rfl (.binOp rfl rfl (fun _ => run_sneq _ _ _ _ _)) ?_
  refine head_bool (fun hc151  => (by exfalso; exact absurd hc151 (by decide +kernel))) (fun hc151  => ?_)
  refine yp rfl (.pickF rfl rfl) (yp rfl (.move rfl) ?_)
  refine head_callWG rfl rfl rfl (by kernel_rfl) (vs := [_]) rfl Tryz.call23 (C_Degree [] _ _ 1 1 (Pq.nil 1) (by decide) (by decide)) (by simp) (by decide) ?_
  refine yq rfl rfl rfl (.neq rfl rfl) ?_
  refine head_bool (fun hc155  => (by exfalso; rw [norm_nil] at hc155; exact absurd hc155 (by decide))) (fun hc155  => ?_)
  refine yp rfl (.pickF rfl rfl) (yp rfl (.move rfl) (yg rfl rfl rfl rfl mr Tryz.isAgg44 Tryz.sizeOf44 (rd_5_0_5 _ _ _ _ _) ?_))
  refine head_callVG rfl rfl rfl (by kernel_rfl) (vs := [_, _, _]) rfl Tryz.call72 (C_term 5 0 0 (by decide) (by decide)) (by decide) ?_
  refine head_callVG rfl rfl rfl (by kernel_rfl) (vs := [_, _, _]) rfl Tryz.call72 (C_term 1 1 0 (by decide) (by decide)) (by decide) ?_
  refine head_buildRowG hS rfl rfl rfl (by kernel_rfl) [(_, _), (_, _)] rfl (bs_46_2_0_1 _ _ _ _ _ _ _ _ _ _ _ _ _ _) (cellsOf encT rK) rfl (by decide) ?_; intro b160
  refine head_callG rfl rfl rfl (by kernel_rfl) (vs := [_]) rfl Tryz.call71 (read_to rK eK rK_s nK) (by simp) (by decide) ?_; rintro v161 Ψ161 ⟨ad161, c161, rfl, rfl⟩
  refine head_callWG rfl rfl rfl (by kernel_rfl) (vs := [_, _, _]) rfl Tryz.call28 (C_Coef eK _ _ 1 101 (pqE (d := 1) eK_ok (by unfold eK; decide)) (by decide) (by decide) 1 0) (by simp) (by decide) ?_
  refine yq rfl rfl rfl (.binOp rfl rfl (fun _ => run_neQ _ _ (cfT (norm eK) 1 0) (((1 : Int) : Rat)) _)) ?_
  refine head_bool (fun hc164  => (by exfalso; rw [norm_id eK_ok.1] at hc164; exact absurd hc164 (by decide +kernel))) (fun hc164  => ?_)
  refine yp rfl (.pickF rfl rfl) (yn ?_); intro a w h
  change Code.wp _ _ _ _ _
  refine cond_false h rfl ?_
  refine gC h (zk (zs (yD mixed_YtddhlkfpdjmplaaGreatDoor [4, 0, 1, 2, 3, 5, 6, 7, 8, 9, 10] (floatsOK_none (by kernel_rfl)) (yd rfl rfl mr Tryz.isAgg44 Tryz.sizeOf44 (rd_5_0_5 _ _ _ _ _) ?_)))); clear h
  refine yv [_, _, _] rfl rfl Tryz.call72 (C_term 1 2 0 (by decide) (by decide)) (yv [_, _, _] rfl rfl Tryz.call72 (C_term 1 0 1 (by decide) (by decide)) ?_)
  refine head_buildRow hS rfl (by kernel_rfl) [(_, _), (_, _)] rfl (bs_46_2_0_1 _ _ _ _ _ _ _ _ _ _ _ _ _ _) (cellsOf encT rM) rfl (by decide) ?_; intro b168
  refine yf [_] rfl rfl Tryz.call71 (read_to rM eM rM_s nM) ?_; rintro v169 Ψ169 ⟨ad169, c169, rfl, rfl⟩
  refine yv [_] rfl rfl Tryz.call79 (C_QAbs (hf) (by have := hf_K; omega)) (yv [_] rfl rfl Tryz.call45 (C_QInt _ (by omega) (by omega)) ?_)
  have hl172 := lenQ_int (3) (by omega) (by omega)
  refine yw [_, _, _] rfl rfl Tryz.call78 (C_At eM _ _ 2 101 4 (pqE (d := 2) eM_ok (by unfold eM; decide)) (by decide) (ab (hf)) ((3 : Int) : Rat) (lenQ_few (by decide +kernel) (by decide +kernel)) (Nat.le_trans (lenQ_int 3 (by decide) (by decide)) (by decide)) (by decide) (by decide)) (yv [_] rfl rfl Tryz.call55 (C_QText _ (by decide +kernel) (by decide +kernel)) (yp rfl (.binOp rfl rfl (fun _ => run_seql _ _ _ _ _)) ?_))
  refine head_bool (fun hc175  => ?_) (fun hc175  => (by exfalso; exact absurd hc175 (by decide +kernel)))
  refine yp rfl (.assign rfl) (yn (zt ?_)); intro a w h
  refine retV h (results1 h rfl (.tmp rfl)) ?_
  rfl
end Go.Proofs.YtddhlkfpdjmplaaGreatDoor
