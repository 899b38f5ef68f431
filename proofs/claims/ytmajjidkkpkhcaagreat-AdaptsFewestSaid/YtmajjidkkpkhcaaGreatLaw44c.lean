/- Written by a program of ours (gen.py) out of short specifications. By an AI agent. -/
import Derived.Test.YtmajjidkkpkhcaaGreatLaw44b
import Derived.Test.YtmajjidkkpkhcaaGreatFxZ
set_option linter.unusedVariables false
set_option linter.unusedSimpArgs false
set_option maxRecDepth 4000
namespace Go.Proofs.YtmajjidkkpkhcaaGreat
open Go Go.Proofs Go.Fx
attribute [local irreducible] Oper.wp Code.wp wpList Fx.Head wpOp
theorem bs_35_5_0_1_2_3_4 (x0_0 : Value) (x0_1 : Value) (x0_2 : Value) (x0_3 : Value) (x0_4 : Value) (x1_0 : Value) (x1_1 : Value) (x1_2 : Value) (x1_3 : Value) (x1_4 : Value) (x2_0 : Value) (x2_1 : Value) (x2_2 : Value) (x2_3 : Value) (x2_4 : Value) (x3_0 : Value) (x3_1 : Value) (x3_2 : Value) (x3_3 : Value) (x3_4 : Value) (x4_0 : Value) (x4_1 : Value) (x4_2 : Value) (x4_3 : Value) (x4_4 : Value) (w : World) : (Instr.buildSlice 35 5 [(0, .agg #[x0_0, x0_1, x0_2, x0_3, x0_4]), (1, .agg #[x1_0, x1_1, x1_2, x1_3, x1_4]), (2, .agg #[x2_0, x2_1, x2_2, x2_3, x2_4]), (3, .agg #[x3_0, x3_1, x3_2, x3_3, x3_4]), (4, .agg #[x4_0, x4_1, x4_2, x4_3, x4_4])].toArray).run Tryz.prog w = .ok (.slice (some ⟨w.heap.size, 0, none⟩) 5 5) (w.alloc (.cells #[x0_0, x0_1, x0_2, x0_3, x0_4, x1_0, x1_1, x1_2, x1_3, x1_4, x2_0, x2_1, x2_2, x2_3, x2_4, x3_0, x3_1, x3_2, x3_3, x3_4, x4_0, x4_1, x4_2, x4_3, x4_4] 48 (0, 0))) := by
  simp [go_sem]
theorem C_MarkL (E : List Rat) (ad : Option Addr) (c : Nat) (t : Rat) (R : List Nat) (n : Nat) (e : Int) (hR : markR E t = R) (he : markE E t = e) (hl : R.length = n) (hE : ∀ x ∈ E, lenQ x ≤ 1000) (ht : lenQ t ≤ 1000) (hn : E.length ≤ 1000) :
    Ctr Tryz.prog 8 [.slice ad E.length c, encQ t] [Row ad (cellsOf encQ E)] (fun v Ψ => ∃ ad', v = .tuple #[.slice ad' n n, .int .i64 e] ∧ Ψ = [Row ad' (List.map encn R)]) := by
  subst hR; subst he; subst hl
  exact C_Mark E ad c t hE ht hn
abbrev exE : List Rat := [((1 : Int) : Rat), ((4 : Int) : Rat), ((2 : Int) : Rat), ((4 : Int) : Rat), ((1 : Int) : Rat)]
theorem exE_len : ∀ x ∈ exE, lenQ x ≤ 1000 := by
  intro x hx
  have h1 := lenQ_int 1 (by decide) (by decide)
  have h2 := lenQ_int 2 (by decide) (by decide)
  have h4 := lenQ_int 4 (by decide) (by decide)
  simp only [exE, List.mem_cons, List.not_mem_nil, or_false] at hx
  rcases hx with rfl | rfl | rfl | rfl | rfl <;> omega
theorem exR35 : markR exE (((1 : Int) : Rat) / ((2 : Int) : Rat)) = [1, 3] := by decide +kernel
theorem exM35 : markE exE (((1 : Int) : Rat) / ((2 : Int) : Rat)) = 0 := by decide +kernel
theorem exR41 : markR exE (((1 : Int) : Rat) / ((3 : Int) : Rat)) = [1] := by decide +kernel
theorem exM41 : markE exE (((1 : Int) : Rat) / ((3 : Int) : Rat)) = 0 := by decide +kernel
theorem exR47 : markR exE (((3 : Int) : Rat) / ((4 : Int) : Rat)) = [1, 2, 3] := by decide +kernel
theorem exM47 : markE exE (((3 : Int) : Rat) / ((4 : Int) : Rat)) = 0 := by decide +kernel
theorem exR53 : markR exE (((0 : Int) : Rat)) = [] := by decide +kernel
theorem exM53 : markE exE (((0 : Int) : Rat)) = 0 := by decide +kernel
theorem exR59 : markR exE (((1 : Int) : Rat)) = [0, 1, 2, 3, 4] := by decide +kernel
theorem exM59 : markE exE (((1 : Int) : Rat)) = 0 := by decide +kernel
theorem exR65 : markR exE (((3 : Int) : Rat) / ((2 : Int) : Rat)) = [] := by decide +kernel
theorem exM65 : markE exE (((3 : Int) : Rat) / ((2 : Int) : Rat)) = 1 := by decide +kernel

theorem C_lives : CtrV Tryz.prog 5 [] (.bool true) := by
  refine fn_intro Tryz.func5 rfl Tryz.ntmps5 nb ?_
  intro S w0 a hS h
  refine gC h (zs (zr (za rfl (zn (zs (zr (zv [_] rfl Tryz.call17 (C_QInt _ (by omega) (by omega)) ?_))))))); clear h; intro a w h
  have hl18 := lenQ_int (1) (by omega) (by omega)
  refine gL h (zv [_] rfl Tryz.call17 (C_QInt _ (by omega) (by omega)) ?_); clear h; intro a w h
  have hl19 := lenQ_int (4) (by omega) (by omega)
  refine gL h (zv [_] rfl Tryz.call17 (C_QInt _ (by omega) (by omega)) ?_); clear h; intro a w h
  have hl20 := lenQ_int (2) (by omega) (by omega)
  refine gL h (zv [_] rfl Tryz.call17 (C_QInt _ (by omega) (by omega)) ?_); clear h; intro a w h
  have hl21 := lenQ_int (4) (by omega) (by omega)
  refine gL h (zv [_] rfl Tryz.call17 (C_QInt _ (by omega) (by omega)) ?_); clear h; intro a w h
  have hl22 := lenQ_int (1) (by omega) (by omega)
  refine gL h (zB [(_, _), (_, _), (_, _), (_, _), (_, _)] rfl (bs_35_5_0_1_2_3_4 _ _ _ _ _ _ _ _ _ _ _ _ _ _ _ _ _ _ _ _ _ _ _ _ _) fun b23 => za rfl ?_); clear h; intro a w h
  replace h := h.shareAll hS (cellsOf encQ ([((1 : Int) : Rat), ((4 : Int) : Rat), ((2 : Int) : Rat), ((4 : Int) : Rat), ((1 : Int) : Rat)])) rfl
  replace h := h.same (Φ' := [Row (some ⟨b23, 0, none⟩) (cellsOf encQ exE)]) rfl rfl rfl
  refine gL h (zn (zs (zr (zv [_, _] rfl Tryz.call18 (C_QOf _ _ (by omega) (by omega) (by omega) (by omega) (by omega)) ?_)))); clear h; intro a w h
  have hl25 := lenQ_of (1) (3) (by omega) (by omega) (by omega) (by omega)
  refine gL h (zm rfl (zp (.extract rfl (fun _ => rfl)) (zp (.extract rfl (fun _ => rfl)) (zz zeroQ fun b2 => zt' rfl rfl (st_5_0_5 _ _ _ _ _ _ _ _ _ _) uu Tryz.sizeOf48 rfl nb rfl ?_)))); clear h; intro a w h
  refine gL h (za rfl (zn (zs (zr (zv [_, _] rfl Tryz.call18 (C_QOf _ _ (by omega) (by omega) (by omega) (by omega) (by omega)) ?_))))); clear h; intro a w h
  have hl29 := lenQ_of (3) (4) (by omega) (by omega) (by omega) (by omega)
  refine gL h (zm rfl (zp (.extract rfl (fun _ => rfl)) (zp (.extract rfl (fun _ => rfl)) (zz zeroQ fun b4 => zt' rfl rfl (st_5_0_5 _ _ _ _ _ _ _ _ _ _) uu Tryz.sizeOf48 rfl nb rfl ?_)))); clear h; intro a w h
  refine gL h (za rfl (zn (zs (zr (zm rfl (zv [_] rfl Tryz.call19 (C_halfs 1 (by omega) (by omega)) ?_)))))); clear h; intro a w h
  have hl34 := lenQ_of 1 2 (by omega) (by omega) (by decide) (by decide)
  refine gL h (zf [_, _] rfl Tryz.call8 (C_MarkL exE _ _ (((1 : Int) : Rat) / ((2 : Int) : Rat)) [1, 3] 2 0 exR35 exM35 rfl exE_len (by omega) nb) ?_); clear h; rintro v35 Ψ35 ⟨ad35, rfl, rfl⟩ a w h
  obtain ⟨B_ad35, O_ad35, rfl⟩ := h.row_addr (ad := ad35) (M := List.map encn [1, 3]) mm (by intro e; cases e)
  refine gL h (zm rfl (zp (.extract rfl (fun _ => rfl)) (zp (.extract rfl (fun _ => rfl)) (za rfl (za rfl (zn (zs (zr (zm rfl (zd rfl mr Tryz.isAgg48 Tryz.sizeOf48 (rd_5_0_5 _ _ _ _ _) ?_)))))))))); clear h; intro a w h
  refine gL h (zf [_, _] rfl Tryz.call8 (C_MarkL exE _ _ (((1 : Int) : Rat) / ((3 : Int) : Rat)) [1] 1 0 exR41 exM41 rfl exE_len (by omega) nb) ?_); clear h; rintro v41 Ψ41 ⟨ad41, rfl, rfl⟩ a w h
  obtain ⟨B_ad41, O_ad41, rfl⟩ := h.row_addr (ad := ad41) (M := List.map encn [1]) mm (by intro e; cases e)
  refine gL h (zm rfl (zp (.extract rfl (fun _ => rfl)) (zp (.extract rfl (fun _ => rfl)) (za rfl (za rfl (zn (zs (zr (zm rfl (zd rfl mr Tryz.isAgg48 Tryz.sizeOf48 (rd_5_0_5 _ _ _ _ _) ?_)))))))))); clear h; intro a w h
  refine gL h (zf [_, _] rfl Tryz.call8 (C_MarkL exE _ _ (((3 : Int) : Rat) / ((4 : Int) : Rat)) [1, 2, 3] 3 0 exR47 exM47 rfl exE_len (by omega) nb) ?_); clear h; rintro v47 Ψ47 ⟨ad47, rfl, rfl⟩ a w h
  obtain ⟨B_ad47, O_ad47, rfl⟩ := h.row_addr (ad := ad47) (M := List.map encn [1, 2, 3]) mm (by intro e; cases e)
  refine gL h (zm rfl (zp (.extract rfl (fun _ => rfl)) (zp (.extract rfl (fun _ => rfl)) (za rfl (za rfl (zn (zs (zr (zm rfl (zv [_] rfl Tryz.call17 (C_QInt _ (by omega) (by omega)) ?_)))))))))); clear h; intro a w h
  have hl52 := lenQ_int (0) (by omega) (by omega)
  refine gL h (zf [_, _] rfl Tryz.call8 (C_MarkL exE _ _ (((0 : Int) : Rat)) [] 0 0 exR53 exM53 rfl exE_len (by omega) nb) ?_); clear h; rintro v53 Ψ53 ⟨ad53, rfl, rfl⟩ a w h
  refine gL h (zm rfl (zp (.extract rfl (fun _ => rfl)) (zp (.extract rfl (fun _ => rfl)) (za rfl (za rfl (zn (zs (zr (zm rfl (zv [_] rfl Tryz.call17 (C_QInt _ (by omega) (by omega)) ?_)))))))))); clear h; intro a w h
  have hl58 := lenQ_int (1) (by omega) (by omega)
  refine gL h (zf [_, _] rfl Tryz.call8 (C_MarkL exE _ _ (((1 : Int) : Rat)) [0, 1, 2, 3, 4] 5 0 exR59 exM59 rfl exE_len (by omega) nb) ?_); clear h; rintro v59 Ψ59 ⟨ad59, rfl, rfl⟩ a w h
  obtain ⟨B_ad59, O_ad59, rfl⟩ := h.row_addr (ad := ad59) (M := List.map encn [0, 1, 2, 3, 4]) mm (by intro e; cases e)
  refine gL h (zm rfl (zp (.extract rfl (fun _ => rfl)) (zp (.extract rfl (fun _ => rfl)) (za rfl (za rfl (zn (zs (zr (zm rfl (zv [_] rfl Tryz.call19 (C_halfs 3 (by omega) (by omega)) ?_)))))))))); clear h; intro a w h
  have hl64 := lenQ_of 3 2 (by omega) (by omega) (by decide) (by decide)
  refine gL h (zf [_, _] rfl Tryz.call8 (C_MarkL exE _ _ (((3 : Int) : Rat) / ((2 : Int) : Rat)) [] 0 1 exR65 exM65 rfl exE_len (by omega) nb) ?_); clear h; rintro v65 Ψ65 ⟨ad65, rfl, rfl⟩ a w h
  refine gL h (zm rfl (zp (.extract rfl (fun _ => rfl)) (zp (.extract rfl (fun _ => rfl)) (za rfl (za rfl (zn (zs (zs (zr (zm rfl (zp (.neq rfl rfl) ?_))))))))))); clear h; intro a w h
  refine by_bool h (fun hc69 h => (by exfalso; revert hc69; decide)) (fun hc69 h => ?_)
  refine gL h (zm rfl (zq 70 rfl rfl (.move rfl) (zq 70 rfl rfl (.builtin [_] rfl (len_slice_28 _ _ _)) (zq 70 rfl rfl (.neq rfl rfl) ?_)))); clear h; intro a w h
  refine by_bool h (fun hc73 h => (by exfalso; revert hc73; decide)) (fun hc73 h => ?_)
  refine gL h (zp (.pickF rfl rfl) (zm rfl (zq 75 rfl rfl (.move rfl) (zq 75 rfl rfl (.builtin [_] rfl (len_slice_28 _ _ _)) (zq 75 rfl rfl (.neq rfl rfl) ?_))))); clear h; intro a w h
  refine by_bool h (fun hc78 h => (by exfalso; revert hc78; decide)) (fun hc78 h => ?_)
  refine gL h (zp (.pickF rfl rfl) (zm rfl (zq 80 rfl rfl (.move rfl) (zq 80 rfl rfl (.builtin [_] rfl (len_slice_28 _ _ _)) (zq 80 rfl rfl (.neq rfl rfl) ?_))))); clear h; intro a w h
  refine by_bool h (fun hc83 h => (by exfalso; revert hc83; decide)) (fun hc83 h => ?_)
  refine gL h (zp (.pickF rfl rfl) (zm rfl (zq 85 rfl rfl (.move rfl) (zq 85 rfl rfl (.builtin [_] rfl (len_slice_28 _ _ _)) (zq 85 rfl rfl (.neq rfl rfl) ?_))))); clear h; intro a w h
  refine by_bool h (fun hc88 h => (by exfalso; revert hc88; decide)) (fun hc88 h => ?_)
  refine gL h (zp (.pickF rfl rfl) (zm rfl (zq 90 rfl rfl (.move rfl) (zq 90 rfl rfl (.builtin [_] rfl (len_slice_28 _ _ _)) (zq 90 rfl rfl (.neq rfl rfl) ?_))))); clear h; intro a w h
  refine by_bool h (fun hc93 h => (by exfalso; revert hc93; decide)) (fun hc93 h => ?_)
  refine gL h (zp (.pickF rfl rfl) (zm rfl (zq 95 rfl rfl (.move rfl) (zq 95 rfl rfl (.neq rfl rfl) ?_)))); clear h; intro a w h
  refine by_bool h (fun hc97 h => (by exfalso; revert hc97; decide)) (fun hc97 h => ?_)
  refine gL h (zp (.pickF rfl rfl) (zn ?_)); clear h; intro a w h
  change Code.wp _ _ _ _ _
  refine cond_false h rfl ?_
  refine gC h (zk (zs (zr (zm rfl (zp (.indexAddr rfl rfl (ix_28 _ _ _ _ 0 (by decide))) (zD rfl mm (by simp; first | done | decide) Tryz.isAgg3 Tryz.sizeOf3 (read_row 0 (by first | done | decide)) (.inr rfl) ?_)))))); clear h; intro a w h
  refine gL h (zp (.eql rfl rfl) ?_); clear h; intro a w h
  refine by_bool h (fun hc102 h => ?_) (fun hc102 h => (by exfalso; revert hc102; decide))
  refine gL h (zm rfl (zq 103 rfl rfl (.move rfl) (zq 103 rfl rfl (.indexAddr rfl rfl (ix_28 _ _ _ _ 1 (by decide))) ?_))); clear h; intro a w h
  refine wpl_guard 103 h rfl rfl (op_loadRow h rfl mm (by simp; first | done | decide) Tryz.isAgg3 Tryz.sizeOf3 (read_row 0 (by first | done | decide)) (.inr rfl) (by decide) ?_); clear h; intro a h
  refine gL h (zq 103 rfl rfl (.eql rfl rfl) ?_); clear h; intro a w h
  refine by_bool h (fun hc107 h => ?_) (fun hc107 h => (by exfalso; revert hc107; decide))
  refine gL h (zp (.pickT rfl rfl) (zm rfl (zq 109 rfl rfl (.move rfl) (zq 109 rfl rfl (.indexAddr rfl rfl (ix_28 _ _ _ _ 0 (by decide))) ?_)))); clear h; intro a w h
  refine wpl_guard 109 h rfl rfl (op_loadRow h rfl mm (by simp; first | done | decide) Tryz.isAgg3 Tryz.sizeOf3 (read_row 0 (by first | done | decide)) (.inr rfl) (by decide) ?_); clear h; intro a h
  refine gL h (zq 109 rfl rfl (.eql rfl rfl) ?_); clear h; intro a w h
  refine by_bool h (fun hc113 h => ?_) (fun hc113 h => (by exfalso; revert hc113; decide))
  refine gL h (zp (.pickT rfl rfl) (zm rfl (zq 115 rfl rfl (.move rfl) (zq 115 rfl rfl (.indexAddr rfl rfl (ix_28 _ _ _ _ 0 (by decide))) ?_)))); clear h; intro a w h
  refine wpl_guard 115 h rfl rfl (op_loadRow h rfl mm (by simp; first | done | decide) Tryz.isAgg3 Tryz.sizeOf3 (read_row 0 (by first | done | decide)) (.inr rfl) (by decide) ?_); clear h; intro a h
  refine gL h (zq 115 rfl rfl (.eql rfl rfl) ?_); clear h; intro a w h
  refine by_bool h (fun hc119 h => ?_) (fun hc119 h => (by exfalso; revert hc119; decide))
  refine gL h (zp (.pickT rfl rfl) (zm rfl (zq 121 rfl rfl (.move rfl) (zq 121 rfl rfl (.indexAddr rfl rfl (ix_28 _ _ _ _ 1 (by decide))) ?_)))); clear h; intro a w h
  refine wpl_guard 121 h rfl rfl (op_loadRow h rfl mm (by simp; first | done | decide) Tryz.isAgg3 Tryz.sizeOf3 (read_row 0 (by first | done | decide)) (.inr rfl) (by decide) ?_); clear h; intro a h
  refine gL h (zq 121 rfl rfl (.eql rfl rfl) ?_); clear h; intro a w h
  refine by_bool h (fun hc125 h => ?_) (fun hc125 h => (by exfalso; revert hc125; decide))
  refine gL h (zp (.pickT rfl rfl) (zm rfl (zq 127 rfl rfl (.move rfl) (zq 127 rfl rfl (.indexAddr rfl rfl (ix_28 _ _ _ _ 2 (by decide))) ?_)))); clear h; intro a w h
  refine wpl_guard 127 h rfl rfl (op_loadRow h rfl mm (by simp; first | done | decide) Tryz.isAgg3 Tryz.sizeOf3 (read_row 0 (by first | done | decide)) (.inr rfl) (by decide) ?_); clear h; intro a h
  refine gL h (zq 127 rfl rfl (.eql rfl rfl) ?_); clear h; intro a w h
  refine by_bool h (fun hc131 h => ?_) (fun hc131 h => (by exfalso; revert hc131; decide))
  refine gL h (zp (.pickT rfl rfl) (zm rfl (zq 133 rfl rfl (.move rfl) (zq 133 rfl rfl (.indexAddr rfl rfl (ix_28 _ _ _ _ 0 (by decide))) ?_)))); clear h; intro a w h
  refine wpl_guard 133 h rfl rfl (op_loadRow h rfl mm (by simp; first | done | decide) Tryz.isAgg3 Tryz.sizeOf3 (read_row 0 (by first | done | decide)) (.inr rfl) (by decide) ?_); clear h; intro a h
  refine gL h (zq 133 rfl rfl (.eql rfl rfl) ?_); clear h; intro a w h
  refine by_bool h (fun hc137 h => ?_) (fun hc137 h => (by exfalso; revert hc137; decide))
  refine gL h (zp (.pickT rfl rfl) (zm rfl (zq 139 rfl rfl (.move rfl) (zq 139 rfl rfl (.indexAddr rfl rfl (ix_28 _ _ _ _ 4 (by decide))) ?_)))); clear h; intro a w h
  refine wpl_guard 139 h rfl rfl (op_loadRow h rfl mm (by simp; first | done | decide) Tryz.isAgg3 Tryz.sizeOf3 (read_row 0 (by first | done | decide)) (.inr rfl) (by decide) ?_); clear h; intro a h
  refine gL h (zq 139 rfl rfl (.eql rfl rfl) ?_); clear h; intro a w h
  refine by_bool h (fun hc143 h => ?_) (fun hc143 h => (by exfalso; revert hc143; decide))
  refine gL h (zp (.pickT rfl rfl) (za rfl (zn (zt ?_)))); clear h; intro a w h
  refine retV h (results1 h rfl (.tmp rfl)) ?_
  rfl
end Go.Proofs.YtmajjidkkpkhcaaGreat
