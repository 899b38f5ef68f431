/- Written by a program of ours (gen.py) out of short specifications. By an AI agent. -/
import Derived.Test.YtkhnecelhpnaoaaGreatDoorLaw10b
set_option linter.unusedVariables false
set_option linter.unusedSimpArgs false
set_option maxRecDepth 4000
namespace Go.Proofs.YtkhnecelhpnaoaaGreatDoor
open Go Go.Proofs Go.Fx
attribute [local irreducible] Oper.wp Code.wp wpList Fx.Head wpOp
theorem rd_15_0_15 (c0 c1 c2 c3 c4 c5 c6 c7 c8 c9 c10 c11 c12 c13 c14 : Value) : readAt true 15 #[c0, c1, c2, c3, c4, c5, c6, c7, c8, c9, c10, c11, c12, c13, c14] 0 = some (.agg #[c0, c1, c2, c3, c4, c5, c6, c7, c8, c9, c10, c11, c12, c13, c14]) := rfl
theorem lat_facts : ∀ d, d ≤ 6 → 1 ≤ d → ((latP d).length = (d + 1) * (d + 2) / 2 ∧ (latW d).length = (latP d).length ∧ (latW d).foldl (· + ·) 0 = ((1 : Int) : Rat) ∧ checkI (latP d) (latW d) = 0 ∧ (d : Int) ≤ exactI (latP d) (latW d) ∧ 0 < (latP d).length ∧ (latP d).length ≤ 28 ∧ (d + 1) * (d + 2) ≤ 56) := by decide +kernel
def symB (d : Nat) : Bool := (List.range (latP d).length).all fun i => (List.range (latP d).length).all fun k =>
  (!decide ((latP d).getD k (0, 0, 0) = (latP d).getD i (0, 0, 0)) || i == k) &&
  (!(decide ((latP d).getD k (0, 0, 0) = (((latP d).getD i (0, 0, 0)).2.1, ((latP d).getD i (0, 0, 0)).2.2, ((latP d).getD i (0, 0, 0)).1)) || decide ((latP d).getD k (0, 0, 0) = (((latP d).getD i (0, 0, 0)).2.1, ((latP d).getD i (0, 0, 0)).1, ((latP d).getD i (0, 0, 0)).2.2))) || decide ((latW d).getD i 0 = (latW d).getD k 0))
theorem symB_all : ∀ d, d ≤ 6 → symB d = true := by decide +kernel
theorem lat_sym (d : Nat) (hd : d ≤ 6) (i : Nat) (hi : i < (latP d).length) (k : Nat) (hk : k < (latP d).length) : ((latP d).getD k (0, 0, 0) = (latP d).getD i (0, 0, 0) → i = k) ∧
  (((latP d).getD k (0, 0, 0) = (((latP d).getD i (0, 0, 0)).2.1, ((latP d).getD i (0, 0, 0)).2.2, ((latP d).getD i (0, 0, 0)).1) ∨ (latP d).getD k (0, 0, 0) = (((latP d).getD i (0, 0, 0)).2.1, ((latP d).getD i (0, 0, 0)).1, ((latP d).getD i (0, 0, 0)).2.2)) → (latW d).getD i 0 = (latW d).getD k 0) := by
  have h1 := List.all_eq_true.1 (List.all_eq_true.1 (symB_all d hd) i (List.mem_range.2 hi)) k (List.mem_range.2 hk)
  simp only [Bool.and_eq_true, Bool.or_eq_true, Bool.not_eq_true', decide_eq_false_iff_not, beq_iff_eq, Bool.or_eq_false_iff, decide_eq_true_eq] at h1
  obtain ⟨h2, h3⟩ := h1
  refine ⟨fun e => h2.resolve_left (fun hn => hn e), fun e => h3.resolve_left (fun hn => ?_)⟩
  rcases e with e | e
  · exact hn.1 e
  · exact hn.2 e

theorem C_RulesTurned (n : Nat) (hn : n < 256) : CtrV Tryz.prog 40 [.int .u8 (n : Int)] (.bool true) := by
  obtain ⟨d, hd, h1, h6⟩ : ∃ d, d = 1 + n % 6 ∧ 1 ≤ d ∧ d ≤ 6 := ⟨_, rfl, by omega, by omega⟩
  obtain ⟨hf1, hf2, hf3, hf4, hf5, hf6, hf7, hf8⟩ := lat_facts d h6 h1
  have hsym := lat_sym d h6
  refine fn_intro Tryz.func40 rfl Tryz.ntmps40 nb ?_
  intro S w0 a hS h
  refine gC h (zs (zr (za rfl (zn (zs (zr (zm rfl (zp (.convert rfl (cv_5_3b _ (wrap_i64 _ (by omega) (by omega)))) (zp (Pure1.cast (v' := .int .i64 ((n % 6 : Nat) : Int)) (.binOp rfl rfl (fun _ => run_rem _ _ _ _ _ (by decide))) (by rw [show (6 : Int) = ((6 : Nat) : Int) from rfl, tmod_nat])) (zp (Pure1.cast (v' := .int .i64 ((d : Nat) : Int)) (Pure1.cast (v' := (.int .i64 ((1 + (n % 6) : Nat) : Int))) (.add rfl rfl) (by show Value.int _ _ = Value.int _ _; congr 1)) (by show Value.int _ _ = Value.int _ _; congr 1; omega)) (za rfl (zn (zs (zr (zm rfl (zf [_] rfl Tryz.call33 (C_Lattice d h1 h6 (rising_s d h6)) ?_)))))))))))))))); clear h; rintro v16 Ψ16 ⟨ad1, c1, ad2, c2, rfl, rfl⟩ a w h
  obtain ⟨B1, O1, rfl⟩ := h.row_addr (ad := ad1) (M := cellsOf encP (latP d)) mm (by intro e; have := congrArg List.length e; rw [cellsOf_length (k := 15) (fun _ => rfl)] at this; simp only [List.length_nil, Nat.mul_eq_zero] at this; omega)
  obtain ⟨B2, O2, rfl⟩ := h.row_addr (ad := ad2) (M := cellsOf encQ (latW d)) mm (by intro e; have := congrArg List.length e; rw [cellsOf_length (k := 5) (fun _ => rfl)] at this; simp only [List.length_nil, Nat.mul_eq_zero] at this; omega)
  refine gL h (zm rfl (zp (.extract rfl (fun _ => rfl)) (zp (.extract rfl (fun _ => rfl)) (zz Tryz.zeroValue58 fun b4 => zt' rfl rfl (st_2_0_2 _ _ _ _) uu Tryz.sizeOf58 rfl nb rfl ?_)))); clear h; intro a w h
  refine gL h (za rfl (zn (zs (zs (zr (zp (.fieldAddr rfl (fa_58_0 _ _)) (zd rfl mr Tryz.isAgg55 Tryz.sizeOf55 (rs_2_0 _ _) ?_))))))); clear h; intro a w h
  refine gL h (zp (.builtin [_] rfl (len_slice_55 _ _ _)) (zm rfl (zp (Pure1.cast (v' := (.int .i64 ((d + 1 : Nat) : Int))) (.add rfl rfl) (by show Value.int _ _ = Value.int _ _; congr 1)) (zm rfl (zp (Pure1.cast (v' := (.int .i64 ((d + 2 : Nat) : Int))) (.add rfl rfl) (by show Value.int _ _ = Value.int _ _; congr 1)) (zp (Pure1.cast (v' := (.int .i64 (((d + 1) * (d + 2) : Nat) : Int))) (.binOp rfl rfl (fun _ => run_mulb _ _ _ _ _ (wrap_i64 _ (by rw [show ((d + 1 : Nat) : Int) * ((d + 2 : Nat) : Int) = (((d + 1) * (d + 2) : Nat) : Int) from (Int.natCast_mul _ _).symm]; omega) (by rw [show ((d + 1 : Nat) : Int) * ((d + 2 : Nat) : Int) = (((d + 1) * (d + 2) : Nat) : Int) from (Int.natCast_mul _ _).symm]; omega)))) (by show Value.int _ _ = Value.int _ _; congr 1)) (zp (Pure1.cast (v' := .int .i64 (((d + 1) * (d + 2) / 2 : Nat) : Int)) (.binOp rfl rfl (fun _ => run_quo _ _ _ _ _ (by decide))) (by rw [show (2 : Int) = ((2 : Nat) : Int) from rfl, tdiv_nat, wrap_i64 _ (by omega) (by omega)])) (zp (.neq rfl rfl) ?_)))))))); clear h; intro a w h
  refine by_bool h (fun hc28 h => (by exfalso; exact natNe hc28 hf1)) (fun hc28 h => ?_)
  refine gL h (zm rfl (zq 29 rfl rfl (.fieldAddr rfl (fa_58_1 _ _)) ?_)); clear h; intro a w h
  refine wpl_guard 29 h rfl rfl (op_load h rfl mr Tryz.isAgg56 Tryz.sizeOf56 (rs_2_1 _ _) (by decide) ?_); clear h; intro a h
  refine gL h (zq 29 rfl rfl (.builtin [_] rfl (len_slice_56 _ _ _)) (zq 29 rfl rfl (.fieldAddr rfl (fa_58_0 _ _)) ?_)); clear h; intro a w h
  refine wpl_guard 29 h rfl rfl (op_load h rfl mr Tryz.isAgg55 Tryz.sizeOf55 (rs_2_0 _ _) (by decide) ?_); clear h; intro a h
  refine gL h (zq 29 rfl rfl (.builtin [_] rfl (len_slice_55 _ _ _)) (zq 29 rfl rfl (.neq rfl rfl) ?_)); clear h; intro a w h
  refine by_bool h (fun hc36 h => (by exfalso; exact natNe hc36 hf2)) (fun hc36 h => ?_)
  refine gL h (zp (.pickF rfl rfl) (zm rfl (zq 38 rfl rfl (.fieldAddr rfl (fa_58_1 _ _)) ?_))); clear h; intro a w h
  refine wpl_guard 38 h rfl rfl (op_load h rfl mr Tryz.isAgg56 Tryz.sizeOf56 (rs_2_1 _ _) (by decide) ?_); clear h; intro a h
  refine wpl_guard 38 h rfl rfl (op_callW h (vs := [_]) rfl Tryz.call45 (C_QSum _ _ (latW d) (by omega) (lat_sW d h6)) (by simp) (by decide) ?_); clear h; intro a w h
  refine wpl_guard 38 h rfl rfl (op_callV h (vs := [_]) rfl Tryz.call28 (C_QInt _ (by omega) (by omega)) (by decide) ?_); clear h; intro a w h
  have hl42 := lenQ_int (1) (by omega) (by omega)
  refine gL h (zq 38 rfl rfl (.binOp rfl rfl (fun _ => run_neQ _ _ ((latW d).foldl (· + ·) 0) (((1 : Int) : Rat)) _)) ?_); clear h; intro a w h
  refine by_bool h (fun hc43 h => (by exfalso; rw [hf3] at hc43; exact absurd hc43 (by decide +kernel))) (fun hc43 h => ?_)
  refine gL h (zp (.pickF rfl rfl) (zm rfl ?_)); clear h; intro a w h
  refine wpl_guard 45 h rfl rfl (op_load h rfl mr Tryz.isAgg58 Tryz.sizeOf58 (rd_2_0_2 _ _) (by decide) ?_); clear h; intro a h
  refine wpl_guard 45 h rfl rfl (op_callW h (vs := [_]) rfl Tryz.call26 (C_Exact _ _ c1 c2 (latP d) (latW d) (by omega) (by omega) (lat_sP d h6) (lat_sW d h6) hf4) (by simp) (by decide) ?_); clear h; intro a w h
  refine gL h (zq 45 rfl rfl (.move rfl) (zq 45 rfl rfl (.lss rfl rfl) ?_)); clear h; intro a w h
  refine by_bool h (fun hc49 h => (by exfalso; have := of_decide_eq_true hc49; omega)) (fun hc49 h => ?_)
  refine gL h (zp (.pickF rfl rfl) (zn ?_)); clear h; intro a w h
  change Code.wp _ _ _ _ _
  refine cond_false h rfl ?_
  refine gC h (zk (zs (zs (zr (za rfl (zn (zb ?_))))))); clear h; intro a w h
  refine wp_loop_inv (fun (i : Nat) a w => i ≤ (latP d).length ∧ St 117 S w0 [(4, .pointer (some ⟨b4, 0, none⟩)), (6, .int .i64 ((i : Nat) : Int))] [(b4, .cells (Value.cells (.agg #[.slice (some ⟨B1, O1, none⟩) ((latP d).length) c1, .slice (some ⟨B2, O2, none⟩) ((latW d).length) c2])) 58 (0, 0))] [Row (some ⟨B2, O2, none⟩) (cellsOf encQ (latW d)), Row (some ⟨B1, O1, none⟩) (cellsOf encP (latP d))] a w) (fun i => (latP d).length - i) 0 (⟨Nat.zero_le _, by exact (h).sub (subL ⟨rfl, rfl, trivial⟩)⟩) ?_; clear h
  rintro i a w ⟨hi_i, h⟩
  refine gC h (zs (zs (zr (zm rfl (zp (.fieldAddr rfl (fa_58_0 _ _)) (zd rfl mr Tryz.isAgg55 Tryz.sizeOf55 (rs_2_0 _ _) ?_)))))); clear h; intro a w h
  refine gL h (zp (.builtin [_] rfl (len_slice_55 _ _ _)) (zp (.lss rfl rfl) (zn ?_))); clear h; intro a w h
  change Code.wp _ _ _ _ _
  refine cond_split h rfl (fun hc55 => ?_) (fun hc55 => ?_)
  · skip
    have hlt_i : i < (latP d).length := by have := of_decide_eq_true hc55; omega
    refine gC h (zk (zs (zb (zs (zr (zp (.fieldAddr rfl (fa_58_0 _ _)) (zd rfl mr Tryz.isAgg55 Tryz.sizeOf55 (rs_2_0 _ _) ?_))))))); clear h; intro a w h
    refine gL h (zm rfl (zp (.indexAddr rfl rfl (ix_55 _ _ _ _ _ (by omega))) (zD rfl mm (cells_lt (k := 15) (by decide) (fun _ => rfl) (latP d) i (by omega)) Tryz.isAgg62 Tryz.sizeOf62 (read_cells (k := 15) (fun _ => rfl) ((fun _ => rfl)) (latP d) (0, 0, 0) i (by omega)) (.inl rfl) ?_))); clear h; intro a w h
    refine gL h (zz zeroP fun b7 => zt' rfl rfl (st_15_0_15 _ _ _ _ _ _ _ _ _ _ _ _ _ _ _ _ _ _ _ _ _ _ _ _ _ _ _ _ _ _) uu Tryz.sizeOf62 rfl nb rfl ?_); clear h; intro a w h
    refine gL h (zn (zs (zr (za rfl (zn (zb ?_)))))); clear h; intro a w h
    refine wp_loop_inv (fun (k : Nat) a w => k ≤ (latP d).length ∧ St 117 S w0 [(4, .pointer (some ⟨b4, 0, none⟩)), (6, .int .i64 ((i : Nat) : Int)), (7, .pointer (some ⟨b7, 0, none⟩)), (8, .int .i64 ((k : Nat) : Int))] [(b7, .cells (Value.cells (encP ((latP d).getD i (0, 0, 0)))) 62 (0, 0)), (b4, .cells (Value.cells (.agg #[.slice (some ⟨B1, O1, none⟩) ((latP d).length) c1, .slice (some ⟨B2, O2, none⟩) ((latW d).length) c2])) 58 (0, 0))] [Row (some ⟨B2, O2, none⟩) (cellsOf encQ (latW d)), Row (some ⟨B1, O1, none⟩) (cellsOf encP (latP d))] a w) (fun k => (latP d).length - k) 0 (⟨Nat.zero_le _, by exact (h).sub (subL ⟨rfl, rfl, rfl, rfl, trivial⟩)⟩) ?_; clear h
    rintro k a w ⟨hi_k, h⟩
    refine gC h (zs (zs (zr (zm rfl (zp (.fieldAddr rfl (fa_58_0 _ _)) (zd rfl mr Tryz.isAgg55 Tryz.sizeOf55 (rs_2_0 _ _) ?_)))))); clear h; intro a w h
    refine gL h (zp (.builtin [_] rfl (len_slice_55 _ _ _)) (zp (.lss rfl rfl) (zn ?_))); clear h; intro a w h
    change Code.wp _ _ _ _ _
    refine cond_split h rfl (fun hc67 => ?_) (fun hc67 => ?_)
    · skip
      have hlt_k : k < (latP d).length := by have := of_decide_eq_true hc67; omega
      refine gC h (zk (zs (zb (zs (zr (zp (.fieldAddr rfl (fa_58_0 _ _)) (zd rfl mr Tryz.isAgg55 Tryz.sizeOf55 (rs_2_0 _ _) ?_))))))); clear h; intro a w h
      refine gL h (zm rfl (zp (.indexAddr rfl rfl (ix_55 _ _ _ _ _ (by omega))) (zD rfl mm (cells_lt (k := 15) (by decide) (fun _ => rfl) (latP d) k (by omega)) Tryz.isAgg62 Tryz.sizeOf62 (read_cells (k := 15) (fun _ => rfl) ((fun _ => rfl)) (latP d) (0, 0, 0) k (by omega)) (.inl rfl) ?_))); clear h; intro a w h
      refine gL h (zz zeroP fun b9 => zt' rfl rfl (st_15_0_15 _ _ _ _ _ _ _ _ _ _ _ _ _ _ _ _ _ _ _ _ _ _ _ _ _ _ _ _ _ _) uu Tryz.sizeOf62 rfl nb rfl ?_); clear h; intro a w h
      refine gL h (zn (zs (zs (zr (zd rfl mr Tryz.isAgg62 Tryz.sizeOf62 (rd_15_0_15 _ _ _ _ _ _ _ _ _ _ _ _ _ _ _) ?_))))); clear h; intro a w h
      refine gL h (zd rfl mr Tryz.isAgg62 Tryz.sizeOf62 (rd_15_0_15 _ _ _ _ _ _ _ _ _ _ _ _ _ _ _) ?_); clear h; intro a w h
      refine gL h (zp (.binOp rfl rfl (fun _ => run_eqP _ _ ((latP d).getD k (0, 0, 0)) ((latP d).getD i (0, 0, 0)) _)) ?_); clear h; intro a w h
      refine by_bool h (fun hc77 h => ?_) (fun hc77 h => ?_)
      · skip
        have he : ((latP d).getD k (0, 0, 0)) = ((latP d).getD i (0, 0, 0)) := of_decide_eq_true hc77
        refine gL h (zm rfl (zq 78 rfl rfl (.move rfl) (zq 78 rfl rfl (.move rfl) (zq 78 rfl rfl (.neq rfl rfl) ?_)))); clear h; intro a w h
        refine by_bool h (fun hc81 h => (by exfalso; exact natNe hc81 ((hsym i hlt_i k hlt_k).1 he))) (fun hc81 h => ?_)
        refine gL h (zp (.pickT rfl rfl) (zn ?_)); clear h; intro a w h
        change Code.wp _ _ _ _ _
        refine cond_false h rfl ?_
        refine gC h (zk (zs (yD mixed_YtkhnecelhpnaoaaGreatDoor [0, 1, 2, 3, 4, 5, 6, 7, 8, 9, 10, 11, 12, 13, 14, 15, 16, 17, 18, 19, 20, 21, 22, 23, 24, 25, 26, 27, 28, 29, 30, 31, 32] (floatsOK_none (by kernel_rfl)) (yd rfl rfl mr Tryz.isAgg62 Tryz.sizeOf62 (rd_15_0_15 _ _ _ _ _ _ _ _ _ _ _ _ _ _ _) ?_)))); clear h
        refine yp rfl (.indexAddr rfl rfl (ixc_62_1 _ _)) (yd rfl rfl mr Tryz.isAgg52 Tryz.sizeOf52 (rd_15_5_5 _ _ _ _ _ _ _ _ _ _ _ _ _ _ _) ?_)
        refine yp rfl (.indexAddr rfl rfl (ixc_62_2 _ _)) (yd rfl rfl mr Tryz.isAgg52 Tryz.sizeOf52 (rd_15_10_5 _ _ _ _ _ _ _ _ _ _ _ _ _ _ _) ?_)
        refine yp rfl (.indexAddr rfl rfl (ixc_62_0 _ _)) (yd rfl rfl mr Tryz.isAgg52 Tryz.sizeOf52 (rd_15_0_5 _ _ _ _ _ _ _ _ _ _ _ _ _ _ _) ?_)
        refine yp rfl (.build [(_, _), (_, _), (_, _)] rfl (bd_62_0_1_2 _ _ _ _ _ _ _ _ _ _ _ _ _ _ _)) (yp rfl (.binOp rfl rfl (fun _ => run_eqP _ _ ((latP d).getD k (0, 0, 0)) ((((latP d).getD i (0, 0, 0)).2.1, ((latP d).getD i (0, 0, 0)).2.2, ((latP d).getD i (0, 0, 0)).1)) _)) ?_)
        refine head_bool (fun hc91  => ?_) (fun hc91  => ?_)
        · skip
          have he1 : ((latP d).getD k (0, 0, 0)) = (((latP d).getD i (0, 0, 0)).2.1, ((latP d).getD i (0, 0, 0)).2.2, ((latP d).getD i (0, 0, 0)).1) := of_decide_eq_true hc91
          refine yp rfl (.move rfl) (yo 92 rfl rfl rfl rfl (yo 92 rfl rfl rfl rfl (yo 92 rfl rfl rfl rfl (yo 92 rfl rfl rfl rfl (yo 92 rfl rfl rfl rfl (yo 92 rfl rfl rfl rfl (yo 92 rfl rfl rfl rfl (yo 92 rfl rfl rfl rfl (yo 92 rfl rfl rfl rfl (yp rfl (.pickT rfl rfl) (yp rfl (.move rfl) (yq rfl rfl rfl (.fieldAddr rfl (fa_58_1 _ _)) (yg rfl rfl rfl rfl mr Tryz.isAgg56 Tryz.sizeOf56 (rs_2_1 _ _) ?_)))))))))))))
          refine yq rfl rfl rfl (.move rfl) (yq rfl rfl rfl (.indexAddr rfl rfl (ix_56 _ _ _ _ _ (by omega))) ?_)
          refine head_loadRowG rfl rfl rfl (by kernel_rfl) rfl mm (cells_lt (k := 5) (by decide) (fun _ => rfl) (latW d) i (by omega)) Tryz.isAgg52 Tryz.sizeOf52 (read_cells (k := 5) (fun _ => rfl) ((fun _ => rfl)) (latW d) 0 i (by omega)) (.inl rfl) (by decide) ?_
          refine yq rfl rfl rfl (.fieldAddr rfl (fa_58_1 _ _)) (yg rfl rfl rfl rfl mr Tryz.isAgg56 Tryz.sizeOf56 (rs_2_1 _ _) ?_)
          refine yq rfl rfl rfl (.move rfl) (yq rfl rfl rfl (.indexAddr rfl rfl (ix_56 _ _ _ _ _ (by omega))) ?_)
          refine head_loadRowG rfl rfl rfl (by kernel_rfl) rfl mm (cells_lt (k := 5) (by decide) (fun _ => rfl) (latW d) k (by omega)) Tryz.isAgg52 Tryz.sizeOf52 (read_cells (k := 5) (fun _ => rfl) ((fun _ => rfl)) (latW d) 0 k (by omega)) (.inl rfl) (by decide) ?_
          refine yq rfl rfl rfl (.binOp rfl rfl (fun _ => run_neQ _ _ ((latW d).getD i 0) ((latW d).getD k 0) _)) ?_
          refine head_bool (fun hc114  => (by exfalso; have hw := (hsym i hlt_i k hlt_k).2 (by first | exact .inl he1 | exact .inr he2); rw [decide_eq_true hw] at hc114; exact absurd hc114 (by decide))) (fun hc114  => ?_)
          refine yp rfl (.pickT rfl rfl) (yn ?_); intro a w h
          change Code.wp _ _ _ _ _
          refine cond_false h rfl ?_
          refine gC h (zk (zr (zm rfl (zp (Pure1.cast (v' := (.int .i64 ((k + 1 : Nat) : Int))) (.add rfl rfl) (by show Value.int _ _ = Value.int _ _; congr 1)) (za rfl (zn ?_)))))); clear h; intro a w h
          exact ⟨k + 1, ⟨by omega, (h.drop sl).sub sA⟩, by omega⟩
        · skip
          refine yp rfl (.move rfl) (yg rfl rfl rfl rfl mr Tryz.isAgg62 Tryz.sizeOf62 (rd_15_0_15 _ _ _ _ _ _ _ _ _ _ _ _ _ _ _) ?_)
          refine yq rfl rfl rfl (.indexAddr rfl rfl (ixc_62_1 _ _)) (yg rfl rfl rfl rfl mr Tryz.isAgg52 Tryz.sizeOf52 (rd_15_5_5 _ _ _ _ _ _ _ _ _ _ _ _ _ _ _) ?_)
          refine yq rfl rfl rfl (.indexAddr rfl rfl (ixc_62_0 _ _)) (yg rfl rfl rfl rfl mr Tryz.isAgg52 Tryz.sizeOf52 (rd_15_0_5 _ _ _ _ _ _ _ _ _ _ _ _ _ _ _) ?_)
          refine yq rfl rfl rfl (.indexAddr rfl rfl (ixc_62_2 _ _)) (yg rfl rfl rfl rfl mr Tryz.isAgg52 Tryz.sizeOf52 (rd_15_10_5 _ _ _ _ _ _ _ _ _ _ _ _ _ _ _) ?_)
          refine yq rfl rfl rfl (.build [(_, _), (_, _), (_, _)] rfl (bd_62_0_1_2 _ _ _ _ _ _ _ _ _ _ _ _ _ _ _)) (yq rfl rfl rfl (.binOp rfl rfl (fun _ => run_eqP _ _ ((latP d).getD k (0, 0, 0)) ((((latP d).getD i (0, 0, 0)).2.1, ((latP d).getD i (0, 0, 0)).1, ((latP d).getD i (0, 0, 0)).2.2)) _)) ?_)
          refine head_bool (fun hc101  => ?_) (fun hc101  => ?_)
          · skip
            have he2 : ((latP d).getD k (0, 0, 0)) = (((latP d).getD i (0, 0, 0)).2.1, ((latP d).getD i (0, 0, 0)).1, ((latP d).getD i (0, 0, 0)).2.2) := of_decide_eq_true hc101
            refine yp rfl (.pickF rfl rfl) (yp rfl (.move rfl) (yq rfl rfl rfl (.fieldAddr rfl (fa_58_1 _ _)) (yg rfl rfl rfl rfl mr Tryz.isAgg56 Tryz.sizeOf56 (rs_2_1 _ _) ?_)))
            refine yq rfl rfl rfl (.move rfl) (yq rfl rfl rfl (.indexAddr rfl rfl (ix_56 _ _ _ _ _ (by omega))) ?_)
            refine head_loadRowG rfl rfl rfl (by kernel_rfl) rfl mm (cells_lt (k := 5) (by decide) (fun _ => rfl) (latW d) i (by omega)) Tryz.isAgg52 Tryz.sizeOf52 (read_cells (k := 5) (fun _ => rfl) ((fun _ => rfl)) (latW d) 0 i (by omega)) (.inl rfl) (by decide) ?_
            refine yq rfl rfl rfl (.fieldAddr rfl (fa_58_1 _ _)) (yg rfl rfl rfl rfl mr Tryz.isAgg56 Tryz.sizeOf56 (rs_2_1 _ _) ?_)
            refine yq rfl rfl rfl (.move rfl) (yq rfl rfl rfl (.indexAddr rfl rfl (ix_56 _ _ _ _ _ (by omega))) ?_)
            refine head_loadRowG rfl rfl rfl (by kernel_rfl) rfl mm (cells_lt (k := 5) (by decide) (fun _ => rfl) (latW d) k (by omega)) Tryz.isAgg52 Tryz.sizeOf52 (read_cells (k := 5) (fun _ => rfl) ((fun _ => rfl)) (latW d) 0 k (by omega)) (.inl rfl) (by decide) ?_
            refine yq rfl rfl rfl (.binOp rfl rfl (fun _ => run_neQ _ _ ((latW d).getD i 0) ((latW d).getD k 0) _)) ?_
            refine head_bool (fun hc114  => (by exfalso; have hw := (hsym i hlt_i k hlt_k).2 (by first | exact .inl he1 | exact .inr he2); rw [decide_eq_true hw] at hc114; exact absurd hc114 (by decide))) (fun hc114  => ?_)
            refine yp rfl (.pickT rfl rfl) (yn ?_); intro a w h
            change Code.wp _ _ _ _ _
            refine cond_false h rfl ?_
            refine gC h (zk (zr (zm rfl (zp (Pure1.cast (v' := (.int .i64 ((k + 1 : Nat) : Int))) (.add rfl rfl) (by show Value.int _ _ = Value.int _ _; congr 1)) (za rfl (zn ?_)))))); clear h; intro a w h
            exact ⟨k + 1, ⟨by omega, (h.drop sl).sub sA⟩, by omega⟩
          · skip
            refine yp rfl (.pickF rfl rfl) (yp rfl (.move rfl) (yo 103 rfl rfl rfl rfl (yo 103 rfl rfl rfl rfl (yo 103 rfl rfl rfl rfl (yo 103 rfl rfl rfl rfl (yo 103 rfl rfl rfl rfl (yo 103 rfl rfl rfl rfl (yo 103 rfl rfl rfl rfl (yo 103 rfl rfl rfl rfl (yo 103 rfl rfl rfl rfl (yo 103 rfl rfl rfl rfl (yo 103 rfl rfl rfl rfl (yp rfl (.pickF rfl rfl) (yn ?_)))))))))))))); intro a w h
            change Code.wp _ _ _ _ _
            refine cond_false h rfl ?_
            refine gC h (zk (zr (zm rfl (zp (Pure1.cast (v' := (.int .i64 ((k + 1 : Nat) : Int))) (.add rfl rfl) (by show Value.int _ _ = Value.int _ _; congr 1)) (za rfl (zn ?_)))))); clear h; intro a w h
            exact ⟨k + 1, ⟨by omega, (h.drop sl).sub sA⟩, by omega⟩
      · skip
        refine gL h (zm rfl (zo 78 rfl rfl rfl (zo 78 rfl rfl rfl (zo 78 rfl rfl rfl (zp (.pickF rfl rfl) (zn ?_)))))); clear h; intro a w h
        change Code.wp _ _ _ _ _
        refine cond_false h rfl ?_
        refine gC h (zk (zs (yD mixed_YtkhnecelhpnaoaaGreatDoor [0, 1, 2, 3, 4, 5, 6, 7, 8, 9, 10, 11, 12, 13, 14, 15, 16, 17, 18, 19, 20, 21, 22, 23, 24, 25, 26, 27, 28, 29, 30, 31, 32] (floatsOK_none (by kernel_rfl)) (yd rfl rfl mr Tryz.isAgg62 Tryz.sizeOf62 (rd_15_0_15 _ _ _ _ _ _ _ _ _ _ _ _ _ _ _) ?_)))); clear h
        refine yp rfl (.indexAddr rfl rfl (ixc_62_1 _ _)) (yd rfl rfl mr Tryz.isAgg52 Tryz.sizeOf52 (rd_15_5_5 _ _ _ _ _ _ _ _ _ _ _ _ _ _ _) ?_)
        refine yp rfl (.indexAddr rfl rfl (ixc_62_2 _ _)) (yd rfl rfl mr Tryz.isAgg52 Tryz.sizeOf52 (rd_15_10_5 _ _ _ _ _ _ _ _ _ _ _ _ _ _ _) ?_)
        refine yp rfl (.indexAddr rfl rfl (ixc_62_0 _ _)) (yd rfl rfl mr Tryz.isAgg52 Tryz.sizeOf52 (rd_15_0_5 _ _ _ _ _ _ _ _ _ _ _ _ _ _ _) ?_)
        refine yp rfl (.build [(_, _), (_, _), (_, _)] rfl (bd_62_0_1_2 _ _ _ _ _ _ _ _ _ _ _ _ _ _ _)) (yp rfl (.binOp rfl rfl (fun _ => run_eqP _ _ ((latP d).getD k (0, 0, 0)) ((((latP d).getD i (0, 0, 0)).2.1, ((latP d).getD i (0, 0, 0)).2.2, ((latP d).getD i (0, 0, 0)).1)) _)) ?_)
        refine head_bool (fun hc91  => ?_) (fun hc91  => ?_)
        · skip
          have he1 : ((latP d).getD k (0, 0, 0)) = (((latP d).getD i (0, 0, 0)).2.1, ((latP d).getD i (0, 0, 0)).2.2, ((latP d).getD i (0, 0, 0)).1) := of_decide_eq_true hc91
          refine yp rfl (.move rfl) (yo 92 rfl rfl rfl rfl (yo 92 rfl rfl rfl rfl (yo 92 rfl rfl rfl rfl (yo 92 rfl rfl rfl rfl (yo 92 rfl rfl rfl rfl (yo 92 rfl rfl rfl rfl (yo 92 rfl rfl rfl rfl (yo 92 rfl rfl rfl rfl (yo 92 rfl rfl rfl rfl (yp rfl (.pickT rfl rfl) (yp rfl (.move rfl) (yq rfl rfl rfl (.fieldAddr rfl (fa_58_1 _ _)) (yg rfl rfl rfl rfl mr Tryz.isAgg56 Tryz.sizeOf56 (rs_2_1 _ _) ?_)))))))))))))
          refine yq rfl rfl rfl (.move rfl) (yq rfl rfl rfl (.indexAddr rfl rfl (ix_56 _ _ _ _ _ (by omega))) ?_)
          refine head_loadRowG rfl rfl rfl (by kernel_rfl) rfl mm (cells_lt (k := 5) (by decide) (fun _ => rfl) (latW d) i (by omega)) Tryz.isAgg52 Tryz.sizeOf52 (read_cells (k := 5) (fun _ => rfl) ((fun _ => rfl)) (latW d) 0 i (by omega)) (.inl rfl) (by decide) ?_
          refine yq rfl rfl rfl (.fieldAddr rfl (fa_58_1 _ _)) (yg rfl rfl rfl rfl mr Tryz.isAgg56 Tryz.sizeOf56 (rs_2_1 _ _) ?_)
          refine yq rfl rfl rfl (.move rfl) (yq rfl rfl rfl (.indexAddr rfl rfl (ix_56 _ _ _ _ _ (by omega))) ?_)
          refine head_loadRowG rfl rfl rfl (by kernel_rfl) rfl mm (cells_lt (k := 5) (by decide) (fun _ => rfl) (latW d) k (by omega)) Tryz.isAgg52 Tryz.sizeOf52 (read_cells (k := 5) (fun _ => rfl) ((fun _ => rfl)) (latW d) 0 k (by omega)) (.inl rfl) (by decide) ?_
          refine yq rfl rfl rfl (.binOp rfl rfl (fun _ => run_neQ _ _ ((latW d).getD i 0) ((latW d).getD k 0) _)) ?_
          refine head_bool (fun hc114  => (by exfalso; have hw := (hsym i hlt_i k hlt_k).2 (by first | exact .inl he1 | exact .inr he2); rw [decide_eq_true hw] at hc114; exact absurd hc114 (by decide))) (fun hc114  => ?_)
          refine yp rfl (.pickT rfl rfl) (yn ?_); intro a w h
          change Code.wp _ _ _ _ _
          refine cond_false h rfl ?_
          refine gC h (zk (zr (zm rfl (zp (Pure1.cast (v' := (.int .i64 ((k + 1 : Nat) : Int))) (.add rfl rfl) (by show Value.int _ _ = Value.int _ _; congr 1)) (za rfl (zn ?_)))))); clear h; intro a w h
          exact ⟨k + 1, ⟨by omega, (h.drop sl).sub sA⟩, by omega⟩
        · skip
          refine yp rfl (.move rfl) (yg rfl rfl rfl rfl mr Tryz.isAgg62 Tryz.sizeOf62 (rd_15_0_15 _ _ _ _ _ _ _ _ _ _ _ _ _ _ _) ?_)
          refine yq rfl rfl rfl (.indexAddr rfl rfl (ixc_62_1 _ _)) (yg rfl rfl rfl rfl mr Tryz.isAgg52 Tryz.sizeOf52 (rd_15_5_5 _ _ _ _ _ _ _ _ _ _ _ _ _ _ _) ?_)
          refine yq rfl rfl rfl (.indexAddr rfl rfl (ixc_62_0 _ _)) (yg rfl rfl rfl rfl mr Tryz.isAgg52 Tryz.sizeOf52 (rd_15_0_5 _ _ _ _ _ _ _ _ _ _ _ _ _ _ _) ?_)
          refine yq rfl rfl rfl (.indexAddr rfl rfl (ixc_62_2 _ _)) (yg rfl rfl rfl rfl mr Tryz.isAgg52 Tryz.sizeOf52 (rd_15_10_5 _ _ _ _ _ _ _ _ _ _ _ _ _ _ _) ?_)
          refine yq rfl rfl rfl (.build [(_, _), (_, _), (_, _)] rfl (bd_62_0_1_2 _ _ _ _ _ _ _ _ _ _ _ _ _ _ _)) (yq rfl rfl rfl (.binOp rfl rfl (fun _ => run_eqP _ _ ((latP d).getD k (0, 0, 0)) ((((latP d).getD i (0, 0, 0)).2.1, ((latP d).getD i (0, 0, 0)).1, ((latP d).getD i (0, 0, 0)).2.2)) _)) ?_)
          refine head_bool (fun hc101  => ?_) (fun hc101  => ?_)
          · skip
            have he2 : ((latP d).getD k (0, 0, 0)) = (((latP d).getD i (0, 0, 0)).2.1, ((latP d).getD i (0, 0, 0)).1, ((latP d).getD i (0, 0, 0)).2.2) := of_decide_eq_true hc101
            refine yp rfl (.pickF rfl rfl) (yp rfl (.move rfl) (yq rfl rfl rfl (.fieldAddr rfl (fa_58_1 _ _)) (yg rfl rfl rfl rfl mr Tryz.isAgg56 Tryz.sizeOf56 (rs_2_1 _ _) ?_)))
            refine yq rfl rfl rfl (.move rfl) (yq rfl rfl rfl (.indexAddr rfl rfl (ix_56 _ _ _ _ _ (by omega))) ?_)
            refine head_loadRowG rfl rfl rfl (by kernel_rfl) rfl mm (cells_lt (k := 5) (by decide) (fun _ => rfl) (latW d) i (by omega)) Tryz.isAgg52 Tryz.sizeOf52 (read_cells (k := 5) (fun _ => rfl) ((fun _ => rfl)) (latW d) 0 i (by omega)) (.inl rfl) (by decide) ?_
            refine yq rfl rfl rfl (.fieldAddr rfl (fa_58_1 _ _)) (yg rfl rfl rfl rfl mr Tryz.isAgg56 Tryz.sizeOf56 (rs_2_1 _ _) ?_)
            refine yq rfl rfl rfl (.move rfl) (yq rfl rfl rfl (.indexAddr rfl rfl (ix_56 _ _ _ _ _ (by omega))) ?_)
            refine head_loadRowG rfl rfl rfl (by kernel_rfl) rfl mm (cells_lt (k := 5) (by decide) (fun _ => rfl) (latW d) k (by omega)) Tryz.isAgg52 Tryz.sizeOf52 (read_cells (k := 5) (fun _ => rfl) ((fun _ => rfl)) (latW d) 0 k (by omega)) (.inl rfl) (by decide) ?_
            refine yq rfl rfl rfl (.binOp rfl rfl (fun _ => run_neQ _ _ ((latW d).getD i 0) ((latW d).getD k 0) _)) ?_
            refine head_bool (fun hc114  => (by exfalso; have hw := (hsym i hlt_i k hlt_k).2 (by first | exact .inl he1 | exact .inr he2); rw [decide_eq_true hw] at hc114; exact absurd hc114 (by decide))) (fun hc114  => ?_)
            refine yp rfl (.pickT rfl rfl) (yn ?_); intro a w h
            change Code.wp _ _ _ _ _
            refine cond_false h rfl ?_
            refine gC h (zk (zr (zm rfl (zp (Pure1.cast (v' := (.int .i64 ((k + 1 : Nat) : Int))) (.add rfl rfl) (by show Value.int _ _ = Value.int _ _; congr 1)) (za rfl (zn ?_)))))); clear h; intro a w h
            exact ⟨k + 1, ⟨by omega, (h.drop sl).sub sA⟩, by omega⟩
          · skip
            refine yp rfl (.pickF rfl rfl) (yp rfl (.move rfl) (yo 103 rfl rfl rfl rfl (yo 103 rfl rfl rfl rfl (yo 103 rfl rfl rfl rfl (yo 103 rfl rfl rfl rfl (yo 103 rfl rfl rfl rfl (yo 103 rfl rfl rfl rfl (yo 103 rfl rfl rfl rfl (yo 103 rfl rfl rfl rfl (yo 103 rfl rfl rfl rfl (yo 103 rfl rfl rfl rfl (yo 103 rfl rfl rfl rfl (yp rfl (.pickF rfl rfl) (yn ?_)))))))))))))); intro a w h
            change Code.wp _ _ _ _ _
            refine cond_false h rfl ?_
            refine gC h (zk (zr (zm rfl (zp (Pure1.cast (v' := (.int .i64 ((k + 1 : Nat) : Int))) (.add rfl rfl) (by show Value.int _ _ = Value.int _ _; congr 1)) (za rfl (zn ?_)))))); clear h; intro a w h
            exact ⟨k + 1, ⟨by omega, (h.drop sl).sub sA⟩, by omega⟩
    · skip
      have heq_k : (latP d).length = k := by have := of_decide_eq_false hc67; omega
      subst heq_k
      refine gC h (ze (zr (zm rfl (zp (Pure1.cast (v' := (.int .i64 ((i + 1 : Nat) : Int))) (.add rfl rfl) (by show Value.int _ _ = Value.int _ _; congr 1)) (za rfl (zn ?_)))))); clear h; intro a w h
      exact ⟨i + 1, ⟨by omega, (h.drop sl).sub sA⟩, by omega⟩
  · skip
    have heq_i : (latP d).length = i := by have := of_decide_eq_false hc55; omega
    subst heq_i
    refine gC h (ze (zs (zr (zv [] rfl Tryz.call18 (C_works) (za rfl (zn (zt ?_))))))); clear h; intro a w h
    refine retV h (results1 h rfl (.tmp rfl)) ?_
    rfl
end Go.Proofs.YtkhnecelhpnaoaaGreatDoor
