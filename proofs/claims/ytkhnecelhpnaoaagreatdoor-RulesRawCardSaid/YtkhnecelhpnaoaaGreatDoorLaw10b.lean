/- Written by a program of ours (gen.py) out of short specifications. By an AI agent. -/
import Derived.Test.YtkhnecelhpnaoaaGreatDoorLaw10a
set_option linter.unusedVariables false
set_option linter.unusedSimpArgs false
set_option maxRecDepth 4000
namespace Go.Proofs.YtkhnecelhpnaoaaGreatDoor
open Go Go.Proofs Go.Fx
attribute [local irreducible] Oper.wp Code.wp wpList Fx.Head wpOp

theorem mid_b : (∀ p ∈ midP, (p.1.num.natAbs < 18446744073709551616 ∧ p.1.den < 18446744073709551616) ∧ (p.2.1.num.natAbs < 18446744073709551616 ∧ p.2.1.den < 18446744073709551616) ∧ (p.2.2.num.natAbs < 18446744073709551616 ∧ p.2.2.den < 18446744073709551616)) ∧
    (∀ x ∈ midW, x.num.natAbs < 18446744073709551616 ∧ x.den < 18446744073709551616) := by decide +kernel
theorem mid_sP (p : Rat × Rat × Rat) (hp : p ∈ midP) : lenQ p.1 ≤ 1000 ∧ lenQ p.2.1 ≤ 1000 ∧ lenQ p.2.2 ≤ 1000 := by
  obtain ⟨⟨a, b⟩, ⟨c, d⟩, e, f⟩ := mid_b.1 p hp
  exact ⟨Nat.le_trans (lenQ_small a b) (by decide), Nat.le_trans (lenQ_small c d) (by decide), Nat.le_trans (lenQ_small e f) (by decide)⟩
theorem mid_sW (x : Rat) (hx : x ∈ midW) : lenQ x ≤ 1000 := Nat.le_trans (lenQ_small (mid_b.2 x hx).1 (mid_b.2 x hx).2) (by decide)

theorem C_works : CtrV Tryz.prog 18 [] (.bool true) := by
  refine fn_intro Tryz.func18 rfl Tryz.ntmps18 nb ?_
  intro S w0 a hS h
  refine gC h (zs (zr (za rfl (zn (zs (zr (zf [_] rfl Tryz.call33 (C_Lattice 1 (by omega) (by omega) (rising_s 1 (by decide))) ?_))))))); clear h; rintro v14 Ψ14 ⟨ad1, c1, ad2, c2, rfl, rfl⟩ a w h
  obtain ⟨B1, O1, rfl⟩ := h.row_addr (ad := ad1) (M := cellsOf encP (latP 1)) mm (by intro e; have := congrArg List.length e; rw [cellsOf_length (k := 15) (fun _ => rfl)] at this; exact absurd this (by decide +kernel))
  refine gL h (zm rfl (zp (.extract rfl (fun _ => rfl)) (zp (.extract rfl (fun _ => rfl)) (zz Tryz.zeroValue58 fun b1 => zt' rfl rfl (st_2_0_2 _ _ _ _) uu Tryz.sizeOf58 rfl nb rfl ?_)))); clear h; intro a w h
  refine gL h (za rfl (zn (zs (zr (zf [_] rfl Tryz.call33 (C_Lattice 2 (by omega) (by omega) (rising_s 2 (by decide))) ?_))))); clear h; rintro v18 Ψ18 ⟨ad3, c3, ad4, c4, rfl, rfl⟩ a w h
  refine gL h (zm rfl (zp (.extract rfl (fun _ => rfl)) (zp (.extract rfl (fun _ => rfl)) (zz Tryz.zeroValue58 fun b3 => zt' rfl rfl (st_2_0_2 _ _ _ _) uu Tryz.sizeOf58 rfl nb rfl ?_)))); clear h; intro a w h
  refine gL h (za rfl (zn (zs (zr (zv [_] rfl Tryz.call33 (C_Lat_low 0 (by decide)) (zm rfl (zp (.extract rfl (fun _ => rfl)) (zp (.extract rfl (fun _ => rfl)) (zz Tryz.zeroValue58 fun b5 => zt' rfl rfl (st_2_0_2 _ _ _ _) uu Tryz.sizeOf58 rfl nb rfl ?_))))))))); clear h; intro a w h
  refine gL h (za rfl (zn (zs (zr (zv [_] rfl Tryz.call33 (C_Lat_high 7 (by decide)) (zm rfl (zp (.extract rfl (fun _ => rfl)) (zp (.extract rfl (fun _ => rfl)) (zz Tryz.zeroValue58 fun b7 => zt' rfl rfl (st_2_0_2 _ _ _ _) uu Tryz.sizeOf58 rfl nb rfl ?_))))))))); clear h; intro a w h
  refine gL h (za rfl (zn (zs (zr (zf [_] rfl Tryz.call31 (C_Cotes 2 (by omega) (by omega) (cot_s 2 (by decide))) ?_))))); clear h; rintro v30 Ψ30 ⟨ad5, c5, ad6, c6, rfl, rfl⟩ a w h
  refine gL h (zm rfl (zp (.extract rfl (fun _ => rfl)) (zp (.extract rfl (fun _ => rfl)) (zz Tryz.zeroValue71 fun b9 => zt' rfl rfl (st_2_0_2 _ _ _ _) uu Tryz.sizeOf71 rfl nb rfl ?_)))); clear h; intro a w h
  refine gL h (za rfl (zn (zs (zr (zv [_] rfl Tryz.call31 (C_Cot_high 9 (by decide)) (zm rfl (zp (.extract rfl (fun _ => rfl)) (zp (.extract rfl (fun _ => rfl)) (zz Tryz.zeroValue71 fun b11 => zt' rfl rfl (st_2_0_2 _ _ _ _) uu Tryz.sizeOf71 rfl nb rfl ?_))))))))); clear h; intro a w h
  refine gL h (za rfl (zn (zs (zs (zr (zp (.fieldAddr rfl (fa_58_0 _ _)) (zd rfl mr Tryz.isAgg55 Tryz.sizeOf55 (rs_2_0 _ _) ?_))))))); clear h; intro a w h
  refine gL h (zp (.builtin [_] rfl (len_slice_55 _ _ _)) (zp (.neq rfl rfl) ?_)); clear h; intro a w h
  refine by_bool h (fun hc40 h => (by exfalso; exact absurd hc40 (by decide +kernel))) (fun hc40 h => ?_)
  refine gL h (zm rfl (zq 41 rfl rfl (.fieldAddr rfl (fa_58_0 _ _)) ?_)); clear h; intro a w h
  refine wpl_guard 41 h rfl rfl (op_load h rfl mr Tryz.isAgg55 Tryz.sizeOf55 (rs_2_0 _ _) (by decide) ?_); clear h; intro a h
  refine gL h (zq 41 rfl rfl (.indexAddr rfl rfl (ix_55 _ _ _ _ 0 (by decide +kernel))) (zq 41 rfl rfl (.slice rfl none none none rfl rfl rfl (sla_62 _ _)) ?_)); clear h; intro a w h
  replace h := h.derive (R := Row (some ⟨B1, O1 + 0 * 15, none⟩) (cellsOf encQ [((latP 1).getD 0 (0, 0, 0)).1, ((latP 1).getD 0 (0, 0, 0)).2.1, ((latP 1).getD 0 (0, 0, 0)).2.2])) (fun X hX => row_point (l := latP 1) (hX _ mm) 0 (by decide +kernel))
  refine wpl_guard 41 h rfl rfl (op_callW h (vs := [_]) rfl Tryz.call69 (C_text _ _ ([((latP 1).getD 0 (0, 0, 0)).1, ((latP 1).getD 0 (0, 0, 0)).2.1, ((latP 1).getD 0 (0, 0, 0)).2.2]) (by decide +kernel) (by decide +kernel)) (by simp) (by decide) ?_); clear h; intro a w h
  refine gL h (zq 41 rfl rfl (.binOp rfl rfl (fun _ => run_sneq _ _ _ _ _)) ?_); clear h; intro a w h
  refine by_bool h (fun hc47 h => (by exfalso; exact absurd hc47 (by decide +kernel))) (fun hc47 h => ?_)
  refine gL h (zp (.pickF rfl rfl) (zm rfl (zq 49 rfl rfl (.fieldAddr rfl (fa_58_0 _ _)) ?_))); clear h; intro a w h
  refine wpl_guard 49 h rfl rfl (op_load h rfl mr Tryz.isAgg55 Tryz.sizeOf55 (rs_2_0 _ _) (by decide) ?_); clear h; intro a h
  refine gL h (zq 49 rfl rfl (.indexAddr rfl rfl (ix_55 _ _ _ _ 1 (by decide +kernel))) (zq 49 rfl rfl (.slice rfl none none none rfl rfl rfl (sla_62 _ _)) ?_)); clear h; intro a w h
  replace h := h.derive (R := Row (some ⟨B1, O1 + 1 * 15, none⟩) (cellsOf encQ [((latP 1).getD 1 (0, 0, 0)).1, ((latP 1).getD 1 (0, 0, 0)).2.1, ((latP 1).getD 1 (0, 0, 0)).2.2])) (fun X hX => row_point (l := latP 1) (hX _ mm) 1 (by decide +kernel))
  refine wpl_guard 49 h rfl rfl (op_callW h (vs := [_]) rfl Tryz.call69 (C_text _ _ ([((latP 1).getD 1 (0, 0, 0)).1, ((latP 1).getD 1 (0, 0, 0)).2.1, ((latP 1).getD 1 (0, 0, 0)).2.2]) (by decide +kernel) (by decide +kernel)) (by simp) (by decide) ?_); clear h; intro a w h
  refine gL h (zq 49 rfl rfl (.binOp rfl rfl (fun _ => run_sneq _ _ _ _ _)) ?_); clear h; intro a w h
  refine by_bool h (fun hc55 h => (by exfalso; exact absurd hc55 (by decide +kernel))) (fun hc55 h => ?_)
  refine gL h (zp (.pickF rfl rfl) (zm rfl (zq 57 rfl rfl (.fieldAddr rfl (fa_58_0 _ _)) ?_))); clear h; intro a w h
  refine wpl_guard 57 h rfl rfl (op_load h rfl mr Tryz.isAgg55 Tryz.sizeOf55 (rs_2_0 _ _) (by decide) ?_); clear h; intro a h
  refine gL h (zq 57 rfl rfl (.indexAddr rfl rfl (ix_55 _ _ _ _ 2 (by decide +kernel))) (zq 57 rfl rfl (.slice rfl none none none rfl rfl rfl (sla_62 _ _)) ?_)); clear h; intro a w h
  replace h := h.derive (R := Row (some ⟨B1, O1 + 2 * 15, none⟩) (cellsOf encQ [((latP 1).getD 2 (0, 0, 0)).1, ((latP 1).getD 2 (0, 0, 0)).2.1, ((latP 1).getD 2 (0, 0, 0)).2.2])) (fun X hX => row_point (l := latP 1) (hX _ mm) 2 (by decide +kernel))
  refine wpl_guard 57 h rfl rfl (op_callW h (vs := [_]) rfl Tryz.call69 (C_text _ _ ([((latP 1).getD 2 (0, 0, 0)).1, ((latP 1).getD 2 (0, 0, 0)).2.1, ((latP 1).getD 2 (0, 0, 0)).2.2]) (by decide +kernel) (by decide +kernel)) (by simp) (by decide) ?_); clear h; intro a w h
  refine gL h (zq 57 rfl rfl (.binOp rfl rfl (fun _ => run_sneq _ _ _ _ _)) ?_); clear h; intro a w h
  refine by_bool h (fun hc63 h => (by exfalso; exact absurd hc63 (by decide +kernel))) (fun hc63 h => ?_)
  refine gL h (zp (.pickF rfl rfl) (zm rfl (zq 65 rfl rfl (.fieldAddr rfl (fa_58_1 _ _)) ?_))); clear h; intro a w h
  refine wpl_guard 65 h rfl rfl (op_load h rfl mr Tryz.isAgg56 Tryz.sizeOf56 (rs_2_1 _ _) (by decide) ?_); clear h; intro a h
  refine wpl_guard 65 h rfl rfl (op_callW h (vs := [_]) rfl Tryz.call69 (C_text ad2 c2 (latW 1) (by decide +kernel) (by decide +kernel)) (by simp) (by decide) ?_); clear h; intro a w h
  refine gL h (zq 65 rfl rfl (.binOp rfl rfl (fun _ => run_sneq _ _ _ _ _)) ?_); clear h; intro a w h
  refine by_bool h (fun hc69 h => (by exfalso; exact absurd hc69 (by decide +kernel))) (fun hc69 h => ?_)
  refine gL h (zp (.pickF rfl rfl) (zm rfl (zq 71 rfl rfl (.move rfl) (zq 71 rfl rfl (.neq rfl rfl) ?_)))); clear h; intro a w h
  refine by_bool h (fun hc73 h => (by exfalso; exact absurd hc73 (by decide +kernel))) (fun hc73 h => ?_)
  refine gL h (zp (.pickF rfl rfl) (zm rfl (zq 75 rfl rfl (.fieldAddr rfl (fa_58_1 _ _)) ?_))); clear h; intro a w h
  refine wpl_guard 75 h rfl rfl (op_load h rfl mr Tryz.isAgg56 Tryz.sizeOf56 (rs_2_1 _ _) (by decide) ?_); clear h; intro a h
  refine wpl_guard 75 h rfl rfl (op_callW h (vs := [_]) rfl Tryz.call69 (C_text ad4 c4 (latW 2) (by decide +kernel) (by decide +kernel)) (by simp) (by decide) ?_); clear h; intro a w h
  refine gL h (zq 75 rfl rfl (.binOp rfl rfl (fun _ => run_sneq _ _ _ _ _)) ?_); clear h; intro a w h
  refine by_bool h (fun hc79 h => (by exfalso; exact absurd hc79 (by decide +kernel))) (fun hc79 h => ?_)
  refine gL h (zp (.pickF rfl rfl) (zm rfl (zq 81 rfl rfl (.move rfl) (zq 81 rfl rfl (.neq rfl rfl) ?_)))); clear h; intro a w h
  refine by_bool h (fun hc83 h => (by exfalso; exact absurd hc83 (by decide +kernel))) (fun hc83 h => ?_)
  refine gL h (zp (.pickF rfl rfl) (zm rfl (zq 85 rfl rfl (.move rfl) (zq 85 rfl rfl (.neq rfl rfl) ?_)))); clear h; intro a w h
  refine by_bool h (fun hc87 h => (by exfalso; exact absurd hc87 (by decide +kernel))) (fun hc87 h => ?_)
  refine gL h (zp (.pickF rfl rfl) (zm rfl (zq 89 rfl rfl (.move rfl) (zq 89 rfl rfl (.neq rfl rfl) ?_)))); clear h; intro a w h
  refine by_bool h (fun hc91 h => (by exfalso; exact absurd hc91 (by decide +kernel))) (fun hc91 h => ?_)
  refine gL h (zp (.pickF rfl rfl) (zm rfl (zq 93 rfl rfl (.fieldAddr rfl (fa_71_1 _ _)) ?_))); clear h; intro a w h
  refine wpl_guard 93 h rfl rfl (op_load h rfl mr Tryz.isAgg56 Tryz.sizeOf56 (rs_2_1 _ _) (by decide) ?_); clear h; intro a h
  refine wpl_guard 93 h rfl rfl (op_callW h (vs := [_]) rfl Tryz.call69 (C_text ad6 c6 (lstT (cotW 2) (2 + 1)) (by decide +kernel) (by decide +kernel)) (by simp) (by decide) ?_); clear h; intro a w h
  refine gL h (zq 93 rfl rfl (.binOp rfl rfl (fun _ => run_sneq _ _ _ _ _)) ?_); clear h; intro a w h
  refine by_bool h (fun hc97 h => (by exfalso; exact absurd hc97 (by decide +kernel))) (fun hc97 h => ?_)
  refine gL h (zp (.pickF rfl rfl) (zm rfl (zq 99 rfl rfl (.move rfl) (zq 99 rfl rfl (.neq rfl rfl) ?_)))); clear h; intro a w h
  refine by_bool h (fun hc101 h => (by exfalso; exact absurd hc101 (by decide +kernel))) (fun hc101 h => ?_)
  refine gL h (zp (.pickF rfl rfl) (zm rfl (zq 103 rfl rfl (.move rfl) (zq 103 rfl rfl (.neq rfl rfl) ?_)))); clear h; intro a w h
  refine by_bool h (fun hc105 h => (by exfalso; exact absurd hc105 (by decide +kernel))) (fun hc105 h => ?_)
  refine gL h (zp (.pickF rfl rfl) (zn ?_)); clear h; intro a w h
  change Code.wp _ _ _ _ _
  refine cond_false h rfl ?_
  refine gC h (zk (zs (zr (zd rfl mr Tryz.isAgg58 Tryz.sizeOf58 (rd_2_0_2 _ _) ?_)))); clear h; intro a w h
  refine gL h (zw [_] rfl Tryz.call26 (C_Exact ad3 ad4 c3 c4 (latP 2) (latW 2) (by decide +kernel) (by decide +kernel) (lat_sP 2 (by decide)) (lat_sW 2 (by decide)) (by decide +kernel)) (zp (.eql rfl rfl) ?_)); clear h; intro a w h
  refine by_bool h (fun hc109 h => ?_) (fun hc109 h => (by exfalso; exact absurd hc109 (by decide +kernel)))
  refine gL h (zm rfl ?_); clear h; intro a w h
  refine wpl_guard 110 h rfl rfl (op_call h (vs := []) rfl Tryz.call70 (C_middle) (by simp) (by decide) ?_); clear h; rintro v111 Ψ111 a w ⟨ad7, c7, ad8, c8, rfl, rfl⟩ h
  refine wpl_guard 110 h rfl rfl (op_callW h (vs := [_]) rfl Tryz.call26 (C_Exact ad7 ad8 c7 c8 midP midW (by decide) (by decide) mid_sP mid_sW (by decide +kernel)) (by simp) (by decide) ?_); clear h; intro a w h
  refine gL h (zq 110 rfl rfl (.eql rfl rfl) ?_); clear h; intro a w h
  refine by_bool h (fun hc113 h => ?_) (fun hc113 h => (by exfalso; exact absurd hc113 (by decide +kernel)))
  refine gL h (zp (.pickT rfl rfl) (zm rfl (zq 115 rfl rfl (.build [] rfl (bd_58_z)) ?_))); clear h; intro a w h
  replace h := h.derive (R := Row none (cellsOf encP [])) (fun X _ hne => absurd rfl hne)
  replace h := h.derive (R := Row none (cellsOf encQ [])) (fun X _ hne => absurd rfl hne)
  refine wpl_guard 115 h rfl rfl (op_callW h (vs := [_]) rfl Tryz.call26 (C_Exact none none 0 0 [] [] (by decide) (by decide) (fun _ h => nomatch h) (fun _ h => nomatch h) (by decide +kernel)) (by simp) (by decide) ?_); clear h; intro a w h
  refine gL h (zq 115 rfl rfl (.eql rfl rfl) ?_); clear h; intro a w h
  refine by_bool h (fun hc118 h => ?_) (fun hc118 h => (by exfalso; exact absurd hc118 (by decide +kernel)))
  refine gL h (zp (.pickT rfl rfl) (zm rfl ?_)); clear h; intro a w h
  refine wpl_guard 120 h rfl rfl (op_load h rfl mr Tryz.isAgg71 Tryz.sizeOf71 (rd_2_0_2 _ _) (by decide) ?_); clear h; intro a h
  refine wpl_guard 120 h rfl rfl (op_callW h (vs := [_]) rfl Tryz.call30 (C_ExactLine ad5 ad6 c5 c6 (lstT (cotA 2) (2 + 1)) (lstT (cotW 2) (2 + 1)) (by decide +kernel) (line_sA 2 (by decide)) (line_sW 2 (by decide)) (by decide +kernel)) (by simp) (by decide) ?_); clear h; intro a w h
  refine gL h (zq 120 rfl rfl (.eql rfl rfl) ?_); clear h; intro a w h
  refine by_bool h (fun hc123 h => ?_) (fun hc123 h => (by exfalso; exact absurd hc123 (by decide +kernel)))
  refine gL h (zp (.pickT rfl rfl) (za rfl (zn (zt ?_)))); clear h; intro a w h
  refine retV h (results1 h rfl (.tmp rfl)) ?_
  rfl
end Go.Proofs.YtkhnecelhpnaoaaGreatDoor
