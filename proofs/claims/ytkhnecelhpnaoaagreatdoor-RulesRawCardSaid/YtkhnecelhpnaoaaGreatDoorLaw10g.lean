/- Written by a program of ours (gen.py) out of short specifications. By an AI agent. -/
import Derived.Test.YtkhnecelhpnaoaaGreatDoorLaw10f
set_option linter.unusedVariables false
set_option linter.unusedSimpArgs false
set_option maxRecDepth 4000
namespace Go.Proofs.YtkhnecelhpnaoaaGreatDoor
open Go Go.Proofs Go.Fx
attribute [local irreducible] Oper.wp Code.wp wpList Fx.Head wpOp
theorem rd_4_0_4 (c0 c1 c2 c3 : Value) : readAt true 4 #[c0, c1, c2, c3] 0 = some (.agg #[c0, c1, c2, c3]) := rfl
theorem exact_law {d : Nat} (h1 : 1 ≤ d) (h6 : d ≤ 6) {p : List Tm} (hp : DL d p) (a b c : Pt) : applyQ (latP d) (latW d) p a b c = triQ p a b c := by
  obtain ⟨_, _, _, hf4, hf5, _⟩ := lat_facts d h6 h1
  exact apply_exact hf4 hp (fun x hx => exactI_ok (by omega)) a b c

theorem C_RulesExact (n : Nat) (hn : n < 256) (l : List Ti) (ad : Option Addr) (c : Nat) (hokl : ∀ t ∈ l, OkT t) (hln : l.length ≤ 9223372036854775807) (qa : (Int × Int) × (Int × Int)) (qb : (Int × Int) × (Int × Int)) (qc : (Int × Int) × (Int × Int)) (hqa : OkP qa) (hqb : OkP qb) (hqc : OkP qc) : CtrW Tryz.prog 6 [.int .u8 (n : Int), .slice ad l.length c, encPQ qa, encPQ qb, encPQ qc] [Row ad (cellsOf encTi l)] (.bool true) := by
  obtain ⟨d, hd, h1, h6⟩ : ∃ d, d = 1 + n % 6 ∧ 1 ≤ d ∧ d ≤ 6 := ⟨_, rfl, by omega, by omega⟩
  obtain ⟨hf1, hf2, hf3, hf4, hf5, hf6, hf7, hf8⟩ := lat_facts d h6 h1
  have hKa := ptv_K hqa
  have hKb := ptv_K hqb
  have hKc := ptv_K hqc
  refine fn_intro Tryz.func6 rfl Tryz.ntmps6 nb ?_
  intro S w0 a hS h
  refine gC h (zs (zr (zx rfl fun b7 => zx rfl fun b8 => zx rfl fun b9 => za rfl (zn (zs (zs (zr (zm rfl (zp (.builtin [_] rfl (len_slice_31 _ _ _)) (zp (.gtr rfl rfl) ?_)))))))))); clear h; intro a w h
  refine by_bool h (fun hc17 h => ?_) (fun hc17 h => ?_)
  · skip
    refine wpList_nil ?_
    change Code.wp _ _ _ _ _
    refine cond_true h rfl ?_
    refine gC h (zs (zr (zv [] rfl Tryz.call18 (C_works) (za rfl (zn (zt ?_)))))); clear h; intro a w h
    refine retV h (results1 h rfl (.tmp rfl)) ?_
    rfl
  · skip
    have hll : l.length ≤ 8 := by have := of_decide_eq_false hc17; omega
    have hgx := made_Pq (d := d) hokl hll (by decide) (by omega)
    refine wpList_nil ?_
    change Code.wp _ _ _ _ _
    refine cond_false h rfl ?_
    refine gC h (zk (zs (zr (zm rfl (zp (.convert rfl (cv_5_3b _ (wrap_i64 _ (by omega) (by omega)))) (zp (Pure1.cast (v' := .int .i64 ((n % 6 : Nat) : Int)) (.binOp rfl rfl (fun _ => run_rem _ _ _ _ _ (by decide))) (by rw [show (6 : Int) = ((6 : Nat) : Int) from rfl, tmod_nat])) (zp (Pure1.cast (v' := .int .i64 ((d : Nat) : Int)) (Pure1.cast (v' := (.int .i64 ((1 + (n % 6) : Nat) : Int))) (.add rfl rfl) (by show Value.int _ _ = Value.int _ _; congr 1)) (by show Value.int _ _ = Value.int _ _; congr 1; omega)) (za rfl (zn (zs (zr (zm rfl (zf [_] rfl Tryz.call33 (C_Lattice d h1 h6 (rising_s d h6)) ?_))))))))))))); clear h; rintro v25 Ψ25 ⟨ad1, c1, ad2, c2, rfl, rfl⟩ a w h
    refine gL h (zm rfl (zp (.extract rfl (fun _ => rfl)) (zp (.extract rfl (fun _ => rfl)) (zz Tryz.zeroValue58 fun b12 => zt' rfl rfl (st_2_0_2 _ _ _ _) uu Tryz.sizeOf58 rfl nb rfl ?_)))); clear h; intro a w h
    refine gL h (za rfl (zn (zs (zr (zm rfl (zm rfl (zf [_, _] rfl Tryz.call19 (C_Made l _ _ d 8 (by assumption) (by omega) (by omega)) ?_))))))); clear h; rintro v30 Ψ30 ⟨ad30, c30, rfl, rfl⟩ a w h
    obtain ⟨G, hnG⟩ : ∃ G, norm (madeL d l) = G := ⟨_, rfl⟩
    rw [hnG] at h hgx
    refine gL h (za rfl (zn (zs (yD mixed_YtkhnecelhpnaoaaGreatDoor [0, 1, 2, 3, 4, 5, 6, 7, 8, 9, 10, 12, 14, 17, 18, 20, 22, 11, 13, 15, 16, 19, 21, 23, 24, 25, 26, 27, 28, 29, 30] (floatsOK_none (by kernel_rfl)) (yp rfl (.move rfl) (yp rfl (.eql rfl rfl) ?_)))))); clear h
    refine head_bool (fun hc32  => ?_) (fun hc32  => (by exfalso; exact absurd hc32 (by decide)))
    refine yp rfl (.move rfl) (yg rfl rfl rfl rfl mr Tryz.isAgg58 Tryz.sizeOf58 (rd_2_0_2 _ _) ?_)
    refine head_callWG rfl rfl rfl (by kernel_rfl) (vs := [_]) rfl Tryz.call25 (C_Check _ _ c1 c2 (latP d) (latW d) (by omega) (by omega) (lat_sP d h6)) (by simp) (by decide) ?_
    refine yq rfl rfl rfl (.eql rfl rfl) ?_
    refine head_bool (fun hc36  => ?_) (fun hc36  => (by exfalso; rw [hf4] at hc36; exact absurd hc36 (by decide)))
    refine yp rfl (.pickT rfl rfl) (yp rfl (.move rfl) (yg rfl rfl rfl rfl mr Tryz.isAgg58 Tryz.sizeOf58 (rd_2_0_2 _ _) ?_))
    refine yq rfl rfl rfl (.move rfl) (yg rfl rfl rfl rfl mr Tryz.isAgg27 Tryz.sizeOf27 (rd_4_0_4 _ _ _ _) ?_)
    refine yg rfl rfl rfl rfl mr Tryz.isAgg27 Tryz.sizeOf27 (rd_4_0_4 _ _ _ _) ?_
    refine yg rfl rfl rfl rfl mr Tryz.isAgg27 Tryz.sizeOf27 (rd_4_0_4 _ _ _ _) ?_
    refine yq rfl rfl rfl (.move rfl) (yg rfl rfl rfl rfl mr Tryz.isAgg27 Tryz.sizeOf27 (rd_4_0_4 _ _ _ _) ?_)
    refine yg rfl rfl rfl rfl mr Tryz.isAgg27 Tryz.sizeOf27 (rd_4_0_4 _ _ _ _) ?_
    refine yg rfl rfl rfl rfl mr Tryz.isAgg27 Tryz.sizeOf27 (rd_4_0_4 _ _ _ _) ?_
    refine head_callVG rfl rfl rfl (by kernel_rfl) (vs := [_]) rfl Tryz.call20 (C_POf qa (by assumption)) (by decide) ?_
    refine head_callVG rfl rfl rfl (by kernel_rfl) (vs := [_]) rfl Tryz.call20 (C_POf qb (by assumption)) (by decide) ?_
    refine head_callVG rfl rfl rfl (by kernel_rfl) (vs := [_]) rfl Tryz.call20 (C_POf qc (by assumption)) (by decide) ?_
    refine head_callWG rfl rfl rfl (by kernel_rfl) (vs := [_, _, _, _, _]) rfl Tryz.call27 (C_Apply _ _ _ c1 c2 _ d 41 4 (latP d) (latW d) G (ptv qa) (ptv qb) (ptv qc) (by omega) (by omega) (lat_sP d h6) (lat_sW d h6) hgx (by omega) (by decide) hKa hKb hKc (by decide) hf4) (by simp) (by decide) ?_
    refine head_callVG rfl rfl rfl (by kernel_rfl) (vs := [_]) rfl Tryz.call20 (C_POf qa (by assumption)) (by decide) ?_
    refine head_callVG rfl rfl rfl (by kernel_rfl) (vs := [_]) rfl Tryz.call20 (C_POf qb (by assumption)) (by decide) ?_
    refine head_callVG rfl rfl rfl (by kernel_rfl) (vs := [_]) rfl Tryz.call20 (C_POf qc (by assumption)) (by decide) ?_
    refine head_callWG rfl rfl rfl (by kernel_rfl) (vs := [_, _, _, _]) rfl Tryz.call34 (C_Tri G _ _ d 41 4 hgx (by omega) (ptv qa) (ptv qb) (ptv qc) hKa hKb hKc (by decide) (by decide)) (by simp) (by decide) ?_
    refine yq rfl rfl rfl (.binOp rfl rfl (fun _ => run_eqQ _ _ (applyQ (latP d) (latW d) G (ptv qa) (ptv qb) (ptv qc)) (triQ G (ptv qa) (ptv qb) (ptv qc)) _)) ?_
    refine head_bool (fun hc56  => ?_) (fun hc56  => (by exfalso; exact absurd (exact_law h1 h6 hgx.deg (ptv qa) (ptv qb) (ptv qc)) (of_decide_eq_false hc56)))
    refine yp rfl (.pickT rfl rfl) (yp rfl (.move rfl) ?_)
    refine head_callVG rfl rfl rfl (by kernel_rfl) (vs := []) rfl Tryz.call18 (C_works) (by decide) ?_
    refine yp rfl (.pickT rfl rfl) (yp rfl (.assign rfl) (yn (zt ?_))); intro a w h
    refine retV h (results1 h rfl (.tmp rfl)) ?_
    rfl
end Go.Proofs.YtkhnecelhpnaoaaGreatDoor
