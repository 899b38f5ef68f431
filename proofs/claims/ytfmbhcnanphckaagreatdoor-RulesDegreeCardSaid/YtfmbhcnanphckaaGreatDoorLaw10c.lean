/- Written by a program of ours (gen.py) out of short specifications. By an AI agent. -/
import Derived.Test.YtfmbhcnanphckaaGreatDoorLaw10b
set_option linter.unusedVariables false
set_option linter.unusedSimpArgs false
set_option maxRecDepth 4000
namespace Go.Proofs.YtfmbhcnanphckaaGreatDoor
open Go Go.Proofs Go.Fx
attribute [local irreducible] Oper.wp Code.wp wpList Fx.Head wpOp
theorem rd_15_0_15 (c0 c1 c2 c3 c4 c5 c6 c7 c8 c9 c10 c11 c12 c13 c14 : Value) : readAt true 15 #[c0, c1, c2, c3, c4, c5, c6, c7, c8, c9, c10, c11, c12, c13, c14] 0 = some (.agg #[c0, c1, c2, c3, c4, c5, c6, c7, c8, c9, c10, c11, c12, c13, c14]) := rfl
theorem lat_facts : ∀ d, d ≤ 6 → 1 ≤ d → ((latP d).length = (d + 1) * (d + 2) / 2 ∧ (latW d).length = (latP d).length ∧ (latW d).foldl (· + ·) 0 = ((1 : Int) : Rat) ∧ checkI (latP d) (latW d) = 0 ∧ (d : Int) ≤ exactI (latP d) (latW d) ∧ 0 < (latP d).length ∧ (latP d).length ≤ 28 ∧ (d + 1) * (d + 2) ≤ 56) := by decide +kernel
def symB (d : Nat) : Bool := (List.range (latP d).length).all fun i => (List.range (latP d).length).all fun k =>
  (!decide ((latP d).getD k (0, 0, 0) = (latP d).getD i (0, 0, 0)) || i == k) &&
  (!(decide ((latP d).getD k (0, 0, 0) = (((latP d).getD i (0, 0, 0)).2.1, ((latP d).getD i (0, 0, 0)).2.2, ((latP d).getD i (0, 0, 0)).1)) || decide ((latP d).getD k (0, 0, 0) = (((latP d).getD i (0, 0, 0)).2.1, ((latP d).getD i (0, 0, 0)).1, ((latP d).getD i (0, 0, 0)).2.2))) || decide ((latW d).getD i 0 = (latW d).getD k 0))
theorem symB_all : ∀ d, d ≤ 6 → symB d = true := by decide +kernel
theorem lat_sym (d : Nat) (hd : d ≤ 6) (i : Nat) (hi : i < (latP d).length) (k : Nat) (hk : k < (latP d).length) : ((latP d).getD k (0, 0, 0) = (latP d).getD i (0, 0, 0) → i = k) ∧
  (((latP d).getD k (0, 0, 0) = (((latP d).getD i (0, 0, 0)).2.1, ((latP d).getD i (0, 0, 0)).2.2, ((latP d).getD i (0, 0, 0)).1) ∨ (latP d).getD k (0, 0, 0) = (((latP d).getD i (0, 0, 0)).2.1, ((latP d).getD i (0, 0, 0)).1, ((latP d).getD i (0, 0, 0)).2.2)) → (latW d).getD i 0 = (latW d).getD k 0) := by
  have h1 := List.all_eq_true.1 (List.all_eq_true.1 (symB_all d hd) i (List.mem_range.2 hi)) k (List.mem_range.2 hk)
  simp only [Bool.and_eq_true, Bool.or_eq_true, Bool.not_eq_true', decide_eq_false_iff_not, beq_iff_eq, Bool.or_eq_false_iff, decide_eq_true_eq] at h1
  obtain ⟨h2, h3⟩ := h1
  refine ⟨fun e => h2.resolve_left (fun hn => hn e), fun e => h3.resolve_left (fun hn => ?_)⟩
  rcases e with e | e
  · exact hn.1 e
  · exact hn.2 e

theorem C_RulesTurned (n : Nat) (hn : n < 256) : CtrV Tryz.prog 4 [.int .u8 (n : Int)] (.bool true) := by
  obtain ⟨d, hd, h1, h6⟩ : ∃ d, d = 1 + n % 6 ∧ 1 ≤ d ∧ d ≤ 6 := ⟨_, rfl, by omega, by omega⟩
  obtain ⟨hf1, hf2, hf3, hf4, hf5, hf6, hf7, hf8⟩ := lat_facts d h6 h1
  have hsym := lat_sym d h6
  refine fn_intro Tryz.func4 rfl Tryz.ntmps4 (Nat.le_of_ble_eq_true rfl) ?_
  intro S w0 a hS h
  refine wp_seq ?_
  refine wp_region_lit ?_
  refine wpl_plain (op_pure h (.assign rfl) (by decide) ?_); clear h; intro a h
  refine wpList_nil ?_
  change Code.wp _ _ _ _ _
  refine wp_seq ?_
  refine wp_region_lit ?_
  refine wpl_plain (op_pure h (.move rfl) (by decide) ?_); clear h; intro a h
  refine wpl_plain (op_pure h (.convert rfl (cv_5_3b _ (wrap_i64 _ (by omega) (by omega)))) (by decide) ?_); clear h; intro a h
  refine wpl_plain (op_pure h (Pure1.cast (v' := .int .i64 ((n % 6 : Nat) : Int)) (.binOp rfl rfl (fun _ => run_rem _ _ _ _ _ (by decide))) (by rw [show (6 : Int) = ((6 : Nat) : Int) from rfl, tmod_nat])) (by decide) ?_); clear h; intro a h
  refine wpl_plain (op_pure h (Pure1.cast (v' := .int .i64 ((d : Nat) : Int)) (Pure1.cast (v' := (.int .i64 ((1 + (n % 6) : Nat) : Int))) (.binOp rfl rfl (fun _ => run_addb _ _ _ _ _ (wrap_i64 _ (by omega) (by omega)))) (by show Value.int _ _ = Value.int _ _; congr 1)) (by show Value.int _ _ = Value.int _ _; congr 1; omega)) (by decide) ?_); clear h; intro a h
  refine wpl_plain (op_pure h (.assign rfl) (by decide) ?_); clear h; intro a h
  refine wpList_nil ?_
  change Code.wp _ _ _ _ _
  refine wp_seq ?_
  refine wp_region_lit ?_
  refine wpl_plain (op_pure h (.move rfl) (by decide) ?_); clear h; intro a h
  refine wpl_plain (op_call h (vs := [_]) rfl Tryz.call11 (C_Lattice d h1 h6 (rising_s d h6)) (by simp) (by decide) ?_); clear h; rintro v16 Ψ16 a w ⟨ad1, c1, ad2, c2, rfl, rfl⟩ h
  obtain ⟨B1, O1, rfl⟩ := h.row_addr (ad := ad1) (M := cellsOf encP (latP d)) (by first | assumption | (repeat (first | exact List.Mem.head _ | apply List.Mem.tail | apply List.mem_append_right))) (by intro e; have := congrArg List.length e; rw [cellsOf_length (k := 15) (fun _ => rfl)] at this; simp only [List.length_nil, Nat.mul_eq_zero] at this; omega)
  obtain ⟨B2, O2, rfl⟩ := h.row_addr (ad := ad2) (M := cellsOf encQ (latW d)) (by first | assumption | (repeat (first | exact List.Mem.head _ | apply List.Mem.tail | apply List.mem_append_right))) (by intro e; have := congrArg List.length e; rw [cellsOf_length (k := 5) (fun _ => rfl)] at this; simp only [List.length_nil, Nat.mul_eq_zero] at this; omega)
  refine wpl_plain (op_pure h (.move rfl) (by decide) ?_); clear h; intro a h
  refine wpl_plain (op_pure h (.extract rfl (fun _ => rfl)) (by decide) ?_); clear h; intro a h
  refine wpl_plain (op_pure h (.extract rfl (fun _ => rfl)) (by decide) ?_); clear h; intro a h
  refine wpl_plain (op_alloc h Tryz.zeroValue25 (by decide) ?_); clear h; intro b4 a w h
  refine wpl_plain (op_store h rfl rfl (st_2_0_2 _ _ _ _) (by repeat (first | exact Upd.head | apply Upd.tail | apply Upd.append)) Tryz.sizeOf25 rfl (Nat.le_of_ble_eq_true rfl) rfl ?_); clear h; intro a w h
  refine wpl_plain (op_pure h (.assign rfl) (by decide) ?_); clear h; intro a h
  refine wpList_nil ?_
  change Code.wp _ _ _ _ _
  refine wp_seq ?_
  refine wp_seq ?_
  refine wp_region_lit ?_
  refine wpl_plain (op_pure h (.fieldAddr rfl (fa_25_0 _ _)) (by decide) ?_); clear h; intro a h
  refine wpl_plain (op_load h rfl (by repeat (first | exact List.Mem.head _ | apply List.Mem.tail | apply List.mem_append_right)) Tryz.isAgg22 Tryz.sizeOf22 (rs_2_0 _ _) (by decide) ?_); clear h; intro a h
  refine wpl_plain (op_pure h (.builtin [_] rfl (len_slice_22 _ _ _)) (by decide) ?_); clear h; intro a h
  refine wpl_plain (op_pure h (.move rfl) (by decide) ?_); clear h; intro a h
  refine wpl_plain (op_pure h (Pure1.cast (v' := (.int .i64 ((d + 1 : Nat) : Int))) (.binOp rfl rfl (fun _ => run_addb _ _ _ _ _ (wrap_i64 _ (by omega) (by omega)))) (by show Value.int _ _ = Value.int _ _; congr 1)) (by decide) ?_); clear h; intro a h
  refine wpl_plain (op_pure h (.move rfl) (by decide) ?_); clear h; intro a h
  refine wpl_plain (op_pure h (Pure1.cast (v' := (.int .i64 ((d + 2 : Nat) : Int))) (.binOp rfl rfl (fun _ => run_addb _ _ _ _ _ (wrap_i64 _ (by omega) (by omega)))) (by show Value.int _ _ = Value.int _ _; congr 1)) (by decide) ?_); clear h; intro a h
  refine wpl_plain (op_pure h (Pure1.cast (v' := (.int .i64 (((d + 1) * (d + 2) : Nat) : Int))) (.binOp rfl rfl (fun _ => run_mulb _ _ _ _ _ (wrap_i64 _ (by rw [show ((d + 1 : Nat) : Int) * ((d + 2 : Nat) : Int) = (((d + 1) * (d + 2) : Nat) : Int) from (Int.natCast_mul _ _).symm]; omega) (by rw [show ((d + 1 : Nat) : Int) * ((d + 2 : Nat) : Int) = (((d + 1) * (d + 2) : Nat) : Int) from (Int.natCast_mul _ _).symm]; omega)))) (by show Value.int _ _ = Value.int _ _; congr 1)) (by decide) ?_); clear h; intro a h
  refine wpl_plain (op_pure h (Pure1.cast (v' := .int .i64 (((d + 1) * (d + 2) / 2 : Nat) : Int)) (.binOp rfl rfl (fun _ => run_quo _ _ _ _ _ (by decide))) (by rw [show (2 : Int) = ((2 : Nat) : Int) from rfl, tdiv_nat, wrap_i64 _ (by omega) (by omega)])) (by decide) ?_); clear h; intro a h
  refine wpl_plain (op_pure h (.binOp rfl rfl (fun _ => run_neq _ _ _ _ _)) (by decide) ?_); clear h; intro a h
  refine by_bool h (fun hc28 h => (by exfalso; exact natNe hc28 hf1)) (fun hc28 h => ?_)
  refine wpl_plain (op_pure h (.move rfl) (by decide) ?_); clear h; intro a h
  refine wpl_guard 29 h rfl rfl (op_pure h (.fieldAddr rfl (fa_25_1 _ _)) (by decide) ?_); clear h; intro a h
  refine wpl_guard 29 h rfl rfl (op_load h rfl (by repeat (first | exact List.Mem.head _ | apply List.Mem.tail | apply List.mem_append_right)) Tryz.isAgg23 Tryz.sizeOf23 (rs_2_1 _ _) (by decide) ?_); clear h; intro a h
  refine wpl_guard 29 h rfl rfl (op_pure h (.builtin [_] rfl (len_slice_23 _ _ _)) (by decide) ?_); clear h; intro a h
  refine wpl_guard 29 h rfl rfl (op_pure h (.fieldAddr rfl (fa_25_0 _ _)) (by decide) ?_); clear h; intro a h
  refine wpl_guard 29 h rfl rfl (op_load h rfl (by repeat (first | exact List.Mem.head _ | apply List.Mem.tail | apply List.mem_append_right)) Tryz.isAgg22 Tryz.sizeOf22 (rs_2_0 _ _) (by decide) ?_); clear h; intro a h
  refine wpl_guard 29 h rfl rfl (op_pure h (.builtin [_] rfl (len_slice_22 _ _ _)) (by decide) ?_); clear h; intro a h
  refine wpl_guard 29 h rfl rfl (op_pure h (.binOp rfl rfl (fun _ => run_neq _ _ _ _ _)) (by decide) ?_); clear h; intro a h
  refine by_bool h (fun hc36 h => (by exfalso; exact natNe hc36 hf2)) (fun hc36 h => ?_)
  refine wpl_plain (op_pure h (.pickF rfl rfl) (by decide) ?_); clear h; intro a h
  refine wpl_plain (op_pure h (.move rfl) (by decide) ?_); clear h; intro a h
  refine wpl_guard 38 h rfl rfl (op_pure h (.fieldAddr rfl (fa_25_1 _ _)) (by decide) ?_); clear h; intro a h
  refine wpl_guard 38 h rfl rfl (op_load h rfl (by repeat (first | exact List.Mem.head _ | apply List.Mem.tail | apply List.mem_append_right)) Tryz.isAgg23 Tryz.sizeOf23 (rs_2_1 _ _) (by decide) ?_); clear h; intro a h
  refine wpl_guard 38 h rfl rfl (op_callW h (vs := [_]) rfl Tryz.call19 (C_QSum _ _ (latW d) (by omega) (lat_sW d h6)) (by simp) (by decide) ?_); clear h; intro a w h
  refine wpl_guard 38 h rfl rfl (op_callV h (vs := [_]) rfl Tryz.call20 (C_QInt _ (by omega) (by omega)) (by decide) ?_); clear h; intro a w h
  have hl42 := lenQ_int (1) (by omega) (by omega)
  refine wpl_guard 38 h rfl rfl (op_pure h (.binOp rfl rfl (fun _ => run_neQ _ _ ((latW d).foldl (· + ·) 0) (((1 : Int) : Rat)) _)) (by decide) ?_); clear h; intro a h
  refine by_bool h (fun hc43 h => (by exfalso; rw [hf3] at hc43; exact absurd hc43 (by decide +kernel))) (fun hc43 h => ?_)
  refine wpl_plain (op_pure h (.pickF rfl rfl) (by decide) ?_); clear h; intro a h
  refine wpl_plain (op_pure h (.move rfl) (by decide) ?_); clear h; intro a h
  refine wpl_guard 45 h rfl rfl (op_load h rfl (by repeat (first | exact List.Mem.head _ | apply List.Mem.tail | apply List.mem_append_right)) Tryz.isAgg25 Tryz.sizeOf25 (rd_2_0_2 _ _) (by decide) ?_); clear h; intro a h
  refine wpl_guard 45 h rfl rfl (op_callW h (vs := [_]) rfl Tryz.call21 (C_Exact _ _ c1 c2 (latP d) (latW d) (by omega) (by omega) (lat_sP d h6) (lat_sW d h6) hf4) (by simp) (by decide) ?_); clear h; intro a w h
  refine wpl_guard 45 h rfl rfl (op_pure h (.move rfl) (by decide) ?_); clear h; intro a h
  refine wpl_guard 45 h rfl rfl (op_pure h (.binOp rfl rfl (fun _ => run_lss _ _ _ _ _)) (by decide) ?_); clear h; intro a h
  refine by_bool h (fun hc49 h => (by exfalso; have := of_decide_eq_true hc49; omega)) (fun hc49 h => ?_)
  refine wpl_plain (op_pure h (.pickF rfl rfl) (by decide) ?_); clear h; intro a h
  refine wpList_nil ?_
  change Code.wp _ _ _ _ _
  refine cond_false h rfl ?_
  refine wp_skip ?_
  change Code.wp _ _ _ _ _
  refine wp_seq ?_
  refine wp_seq ?_
  refine wp_region_lit ?_
  refine wpl_plain (op_pure h (.assign rfl) (by decide) ?_); clear h; intro a h
  refine wpList_nil ?_
  change Code.wp _ _ _ _ _
  refine wp_block ?_
  refine wp_loop_inv (fun (i : Nat) a w => i ≤ (latP d).length ∧ St 117 S w0 [(0, .int .u8 (n : Int)), (2, .bool false), (3, .int .i64 ((d : Nat) : Int)), (4, .pointer (some ⟨b4, 0, none⟩)), (6, .int .i64 ((i : Nat) : Int)), (10, .int .u8 (n : Int)), (11, .int .i64 (n : Int)), (12, .int .i64 ((n % 6 : Nat) : Int)), (13, .int .i64 ((d : Nat) : Int)), (14, .tuple #[.agg #[.slice (some ⟨B1, O1, none⟩) ((latP d).length) c1, .slice (some ⟨B2, O2, none⟩) ((latW d).length) c2], .int .i64 0]), (15, .int .i64 ((d : Nat) : Int)), (16, .tuple #[.agg #[.slice (some ⟨B1, O1, none⟩) ((latP d).length) c1, .slice (some ⟨B2, O2, none⟩) ((latW d).length) c2], .int .i64 0]), (17, .agg #[.slice (some ⟨B1, O1, none⟩) ((latP d).length) c1, .slice (some ⟨B2, O2, none⟩) ((latW d).length) c2]), (18, .int .i64 0), (19, .pointer (some ⟨b4, 0, none⟩)), (20, .slice (some ⟨B1, O1, none⟩) ((latP d).length) c1), (21, .int .i64 (((latP d).length : Nat) : Int)), (22, .int .i64 ((d : Nat) : Int)), (23, .int .i64 ((d + 1 : Nat) : Int)), (24, .int .i64 ((d : Nat) : Int)), (25, .int .i64 ((d + 2 : Nat) : Int)), (26, .int .i64 (((d + 1) * (d + 2) : Nat) : Int)), (27, .int .i64 (((d + 1) * (d + 2) / 2 : Nat) : Int)), (28, .bool false), (29, .bool false), (30, .pointer (some ⟨b4, 1, none⟩)), (31, .slice (some ⟨B2, O2, none⟩) ((latW d).length) c2), (32, .int .i64 (((latW d).length : Nat) : Int)), (33, .pointer (some ⟨b4, 0, none⟩)), (34, .slice (some ⟨B1, O1, none⟩) ((latP d).length) c1), (35, .int .i64 (((latP d).length : Nat) : Int)), (36, .bool false), (37, .bool false), (38, .bool false), (39, .pointer (some ⟨b4, 1, none⟩)), (40, .slice (some ⟨B2, O2, none⟩) ((latW d).length) c2), (41, encQ ((latW d).foldl (· + ·) 0)), (42, encQ (((1 : Int) : Rat))), (43, .bool false), (44, .bool false), (45, .bool false), (46, .agg #[.slice (some ⟨B1, O1, none⟩) ((latP d).length) c1, .slice (some ⟨B2, O2, none⟩) ((latW d).length) c2]), (47, .int .i64 (exactI (latP d) (latW d))), (48, .int .i64 ((d : Nat) : Int)), (49, .bool false), (50, .bool false)] [(b4, .cells (Value.cells (.agg #[.slice (some ⟨B1, O1, none⟩) ((latP d).length) c1, .slice (some ⟨B2, O2, none⟩) ((latW d).length) c2])) 25 (0, 0))] [Row (some ⟨B2, O2, none⟩) (cellsOf encQ (latW d)), Row (some ⟨B1, O1, none⟩) (cellsOf encP (latP d))] a w) (fun i => (latP d).length - i) 0 (⟨Nat.zero_le _, by exact (h).sub (subL ⟨rfl, rfl, rfl, rfl, rfl, rfl, rfl, rfl, rfl, rfl, rfl, rfl, rfl, rfl, rfl, rfl, rfl, rfl, rfl, rfl, rfl, rfl, rfl, rfl, rfl, rfl, rfl, rfl, rfl, rfl, rfl, rfl, rfl, rfl, rfl, rfl, rfl, rfl, rfl, rfl, rfl, rfl, rfl, rfl, rfl, rfl, trivial⟩)⟩) ?_; clear h
  rintro i a w ⟨hi_i, h⟩
  refine wp_seq ?_
  refine wp_seq ?_
  refine wp_region_lit ?_
  refine wpl_plain (op_pure h (.move rfl) (by decide) ?_); clear h; intro a h
  refine wpl_plain (op_pure h (.fieldAddr rfl (fa_25_0 _ _)) (by decide) ?_); clear h; intro a h
  refine wpl_plain (op_load h rfl (by repeat (first | exact List.Mem.head _ | apply List.Mem.tail | apply List.mem_append_right)) Tryz.isAgg22 Tryz.sizeOf22 (rs_2_0 _ _) (by decide) ?_); clear h; intro a h
  refine wpl_plain (op_pure h (.builtin [_] rfl (len_slice_22 _ _ _)) (by decide) ?_); clear h; intro a h
  refine wpl_plain (op_pure h (.binOp rfl rfl (fun _ => run_lss _ _ _ _ _)) (by decide) ?_); clear h; intro a h
  refine wpList_nil ?_
  change Code.wp _ _ _ _ _
  refine cond_split h rfl (fun hc55 => ?_) (fun hc55 => ?_)
  · skip
    have hlt_i : i < (latP d).length := by have := of_decide_eq_true hc55; omega
    refine wp_skip ?_
    change Code.wp _ _ _ _ _
    refine wp_seq ?_
    refine wp_block ?_
    refine wp_seq ?_
    refine wp_region_lit ?_
    refine wpl_plain (op_pure h (.fieldAddr rfl (fa_25_0 _ _)) (by decide) ?_); clear h; intro a h
    refine wpl_plain (op_load h rfl (by repeat (first | exact List.Mem.head _ | apply List.Mem.tail | apply List.mem_append_right)) Tryz.isAgg22 Tryz.sizeOf22 (rs_2_0 _ _) (by decide) ?_); clear h; intro a h
    refine wpl_plain (op_pure h (.move rfl) (by decide) ?_); clear h; intro a h
    refine wpl_plain (op_pure h (.indexAddr rfl rfl (ix_22 _ _ _ _ _ (by omega))) (by decide) ?_); clear h; intro a h
    refine wpl_plain (op_loadRow h rfl (by first | assumption | (repeat (first | exact List.Mem.head _ | apply List.Mem.tail | apply List.mem_append_right))) (cells_lt (k := 15) (by decide) (fun _ => rfl) (latP d) i (by omega)) Tryz.isAgg55 Tryz.sizeOf55 (read_cells (k := 15) (fun _ => rfl) ((fun _ => rfl)) (latP d) (0, 0, 0) i (by omega)) (.inl rfl) (by decide) ?_); clear h; intro a h
    refine wpl_plain (op_alloc h zeroP (by decide) ?_); clear h; intro b7 a w h
    refine wpl_plain (op_store h rfl rfl (st_15_0_15 _ _ _ _ _ _ _ _ _ _ _ _ _ _ _ _ _ _ _ _ _ _ _ _ _ _ _ _ _ _) (by repeat (first | exact Upd.head | apply Upd.tail | apply Upd.append)) Tryz.sizeOf55 rfl (Nat.le_of_ble_eq_true rfl) rfl ?_); clear h; intro a w h
    refine wpList_nil ?_
    change Code.wp _ _ _ _ _
    refine wp_seq ?_
    refine wp_region_lit ?_
    refine wpl_plain (op_pure h (.assign rfl) (by decide) ?_); clear h; intro a h
    refine wpList_nil ?_
    change Code.wp _ _ _ _ _
    refine wp_block ?_
    refine wp_loop_inv (fun (k : Nat) a w => k ≤ (latP d).length ∧ St 117 S w0 [(0, .int .u8 (n : Int)), (2, .bool false), (3, .int .i64 ((d : Nat) : Int)), (4, .pointer (some ⟨b4, 0, none⟩)), (6, .int .i64 ((i : Nat) : Int)), (7, .pointer (some ⟨b7, 0, none⟩)), (8, .int .i64 ((k : Nat) : Int)), (10, .int .u8 (n : Int)), (11, .int .i64 (n : Int)), (12, .int .i64 ((n % 6 : Nat) : Int)), (13, .int .i64 ((d : Nat) : Int)), (14, .tuple #[.agg #[.slice (some ⟨B1, O1, none⟩) ((latP d).length) c1, .slice (some ⟨B2, O2, none⟩) ((latW d).length) c2], .int .i64 0]), (15, .int .i64 ((d : Nat) : Int)), (16, .tuple #[.agg #[.slice (some ⟨B1, O1, none⟩) ((latP d).length) c1, .slice (some ⟨B2, O2, none⟩) ((latW d).length) c2], .int .i64 0]), (17, .agg #[.slice (some ⟨B1, O1, none⟩) ((latP d).length) c1, .slice (some ⟨B2, O2, none⟩) ((latW d).length) c2]), (18, .int .i64 0), (19, .pointer (some ⟨b4, 0, none⟩)), (20, .slice (some ⟨B1, O1, none⟩) ((latP d).length) c1), (21, .int .i64 (((latP d).length : Nat) : Int)), (22, .int .i64 ((d : Nat) : Int)), (23, .int .i64 ((d + 1 : Nat) : Int)), (24, .int .i64 ((d : Nat) : Int)), (25, .int .i64 ((d + 2 : Nat) : Int)), (26, .int .i64 (((d + 1) * (d + 2) : Nat) : Int)), (27, .int .i64 (((d + 1) * (d + 2) / 2 : Nat) : Int)), (28, .bool false), (29, .bool false), (30, .pointer (some ⟨b4, 1, none⟩)), (31, .slice (some ⟨B2, O2, none⟩) ((latW d).length) c2), (32, .int .i64 (((latW d).length : Nat) : Int)), (33, .pointer (some ⟨b4, 0, none⟩)), (34, .slice (some ⟨B1, O1, none⟩) ((latP d).length) c1), (35, .int .i64 (((latP d).length : Nat) : Int)), (36, .bool false), (37, .bool false), (38, .bool false), (39, .pointer (some ⟨b4, 1, none⟩)), (40, .slice (some ⟨B2, O2, none⟩) ((latW d).length) c2), (41, encQ ((latW d).foldl (· + ·) 0)), (42, encQ (((1 : Int) : Rat))), (43, .bool false), (44, .bool false), (45, .bool false), (46, .agg #[.slice (some ⟨B1, O1, none⟩) ((latP d).length) c1, .slice (some ⟨B2, O2, none⟩) ((latW d).length) c2]), (47, .int .i64 (exactI (latP d) (latW d))), (48, .int .i64 ((d : Nat) : Int)), (49, .bool false), (50, .bool false), (51, .int .i64 ((i : Nat) : Int)), (52, .pointer (some ⟨b4, 0, none⟩)), (53, .slice (some ⟨B1, O1, none⟩) ((latP d).length) c1), (54, .int .i64 (((latP d).length : Nat) : Int)), (55, .bool (decide (((i : Nat) : Int) < (((latP d).length : Nat) : Int)))), (58, .pointer (some ⟨b4, 0, none⟩)), (59, .slice (some ⟨B1, O1, none⟩) ((latP d).length) c1), (60, .int .i64 ((i : Nat) : Int)), (62, encP ((latP d).getD i (0, 0, 0)))] [(b7, .cells (Value.cells (encP ((latP d).getD i (0, 0, 0)))) 55 (0, 0)), (b4, .cells (Value.cells (.agg #[.slice (some ⟨B1, O1, none⟩) ((latP d).length) c1, .slice (some ⟨B2, O2, none⟩) ((latW d).length) c2])) 25 (0, 0))] [Row (some ⟨B2, O2, none⟩) (cellsOf encQ (latW d)), Row (some ⟨B1, O1, none⟩) (cellsOf encP (latP d))] a w) (fun k => (latP d).length - k) 0 (⟨Nat.zero_le _, by exact (h).sub (subL ⟨rfl, rfl, rfl, rfl, rfl, rfl, rfl, rfl, rfl, rfl, rfl, rfl, rfl, rfl, rfl, rfl, rfl, rfl, rfl, rfl, rfl, rfl, rfl, rfl, rfl, rfl, rfl, rfl, rfl, rfl, rfl, rfl, rfl, rfl, rfl, rfl, rfl, rfl, rfl, rfl, rfl, rfl, rfl, rfl, rfl, rfl, rfl, rfl, rfl, rfl, rfl, rfl, rfl, rfl, rfl, rfl, rfl, trivial⟩)⟩) ?_; clear h
    rintro k a w ⟨hi_k, h⟩
    refine wp_seq ?_
    refine wp_seq ?_
    refine wp_region_lit ?_
    refine wpl_plain (op_pure h (.move rfl) (by decide) ?_); clear h; intro a h
    refine wpl_plain (op_pure h (.fieldAddr rfl (fa_25_0 _ _)) (by decide) ?_); clear h; intro a h
    refine wpl_plain (op_load h rfl (by repeat (first | exact List.Mem.head _ | apply List.Mem.tail | apply List.mem_append_right)) Tryz.isAgg22 Tryz.sizeOf22 (rs_2_0 _ _) (by decide) ?_); clear h; intro a h
    refine wpl_plain (op_pure h (.builtin [_] rfl (len_slice_22 _ _ _)) (by decide) ?_); clear h; intro a h
    refine wpl_plain (op_pure h (.binOp rfl rfl (fun _ => run_lss _ _ _ _ _)) (by decide) ?_); clear h; intro a h
    refine wpList_nil ?_
    change Code.wp _ _ _ _ _
    refine cond_split h rfl (fun hc67 => ?_) (fun hc67 => ?_)
    · skip
      have hlt_k : k < (latP d).length := by have := of_decide_eq_true hc67; omega
      refine wp_skip ?_
      change Code.wp _ _ _ _ _
      refine wp_seq ?_
      refine wp_block ?_
      refine wp_seq ?_
      refine wp_region_lit ?_
      refine wpl_plain (op_pure h (.fieldAddr rfl (fa_25_0 _ _)) (by decide) ?_); clear h; intro a h
      refine wpl_plain (op_load h rfl (by repeat (first | exact List.Mem.head _ | apply List.Mem.tail | apply List.mem_append_right)) Tryz.isAgg22 Tryz.sizeOf22 (rs_2_0 _ _) (by decide) ?_); clear h; intro a h
      refine wpl_plain (op_pure h (.move rfl) (by decide) ?_); clear h; intro a h
      refine wpl_plain (op_pure h (.indexAddr rfl rfl (ix_22 _ _ _ _ _ (by omega))) (by decide) ?_); clear h; intro a h
      refine wpl_plain (op_loadRow h rfl (by first | assumption | (repeat (first | exact List.Mem.head _ | apply List.Mem.tail | apply List.mem_append_right))) (cells_lt (k := 15) (by decide) (fun _ => rfl) (latP d) k (by omega)) Tryz.isAgg55 Tryz.sizeOf55 (read_cells (k := 15) (fun _ => rfl) ((fun _ => rfl)) (latP d) (0, 0, 0) k (by omega)) (.inl rfl) (by decide) ?_); clear h; intro a h
      refine wpl_plain (op_alloc h zeroP (by decide) ?_); clear h; intro b9 a w h
      refine wpl_plain (op_store h rfl rfl (st_15_0_15 _ _ _ _ _ _ _ _ _ _ _ _ _ _ _ _ _ _ _ _ _ _ _ _ _ _ _ _ _ _) (by repeat (first | exact Upd.head | apply Upd.tail | apply Upd.append)) Tryz.sizeOf55 rfl (Nat.le_of_ble_eq_true rfl) rfl ?_); clear h; intro a w h
      refine wpList_nil ?_
      change Code.wp _ _ _ _ _
      refine wp_seq ?_
      refine wp_seq ?_
      refine wp_region_lit ?_
      refine wpl_plain (op_load h rfl (by repeat (first | exact List.Mem.head _ | apply List.Mem.tail | apply List.mem_append_right)) Tryz.isAgg55 Tryz.sizeOf55 (rd_15_0_15 _ _ _ _ _ _ _ _ _ _ _ _ _ _ _) (by decide) ?_); clear h; intro a h
      refine wpl_plain (op_load h rfl (by repeat (first | exact List.Mem.head _ | apply List.Mem.tail | apply List.mem_append_right)) Tryz.isAgg55 Tryz.sizeOf55 (rd_15_0_15 _ _ _ _ _ _ _ _ _ _ _ _ _ _ _) (by decide) ?_); clear h; intro a h
      refine wpl_plain (op_pure h (.binOp rfl rfl (fun _ => run_eqP _ _ ((latP d).getD k (0, 0, 0)) ((latP d).getD i (0, 0, 0)) _)) (by decide) ?_); clear h; intro a h
      refine by_bool h (fun hc77 h => ?_) (fun hc77 h => ?_)
      · skip
        have he : ((latP d).getD k (0, 0, 0)) = ((latP d).getD i (0, 0, 0)) := of_decide_eq_true hc77
        refine wpl_plain (op_pure h (.move rfl) (by decide) ?_); clear h; intro a h
        refine wpl_guard 78 h rfl rfl (op_pure h (.move rfl) (by decide) ?_); clear h; intro a h
        refine wpl_guard 78 h rfl rfl (op_pure h (.move rfl) (by decide) ?_); clear h; intro a h
        refine wpl_guard 78 h rfl rfl (op_pure h (.binOp rfl rfl (fun _ => run_neq _ _ _ _ _)) (by decide) ?_); clear h; intro a h
        refine by_bool h (fun hc81 h => (by exfalso; exact natNe hc81 ((hsym i hlt_i k hlt_k).1 he))) (fun hc81 h => ?_)
        refine wpl_plain (op_pure h (.pickT rfl rfl) (by decide) ?_); clear h; intro a h
        refine wpList_nil ?_
        change Code.wp _ _ _ _ _
        refine cond_false h rfl ?_
        refine wp_skip ?_
        change Code.wp _ _ _ _ _
        refine wp_seq ?_
        refine wp_draws mixed_YtfmbhcnanphckaaGreatDoor h [0, 1, 2, 3, 4, 5, 6, 7, 8, 9, 10, 11, 12, 13, 14, 15, 16, 17, 18, 19, 20, 21, 22, 23, 24, 25, 26, 27, 28, 29, 30, 31, 32] _ (fun _ _ hh => hh) (by kernel_rfl) (floatsOK_none (by kernel_rfl)) ?_; clear h
        refine head_load rfl (by kernel_rfl) rfl (by repeat (first | exact List.Mem.head _ | apply List.Mem.tail | apply List.mem_append_right)) Tryz.isAgg55 Tryz.sizeOf55 (rd_15_0_15 _ _ _ _ _ _ _ _ _ _ _ _ _ _ _) (by decide) ?_
        refine head_pure rfl (by kernel_rfl) (.indexAddr rfl rfl (ixc_55_1 _ _)) (by decide) ?_
        refine head_load rfl (by kernel_rfl) rfl (by repeat (first | exact List.Mem.head _ | apply List.Mem.tail | apply List.mem_append_right)) Tryz.isAgg42 Tryz.sizeOf42 (rd_15_5_5 _ _ _ _ _ _ _ _ _ _ _ _ _ _ _) (by decide) ?_
        refine head_pure rfl (by kernel_rfl) (.indexAddr rfl rfl (ixc_55_2 _ _)) (by decide) ?_
        refine head_load rfl (by kernel_rfl) rfl (by repeat (first | exact List.Mem.head _ | apply List.Mem.tail | apply List.mem_append_right)) Tryz.isAgg42 Tryz.sizeOf42 (rd_15_10_5 _ _ _ _ _ _ _ _ _ _ _ _ _ _ _) (by decide) ?_
        refine head_pure rfl (by kernel_rfl) (.indexAddr rfl rfl (ixc_55_0 _ _)) (by decide) ?_
        refine head_load rfl (by kernel_rfl) rfl (by repeat (first | exact List.Mem.head _ | apply List.Mem.tail | apply List.mem_append_right)) Tryz.isAgg42 Tryz.sizeOf42 (rd_15_0_5 _ _ _ _ _ _ _ _ _ _ _ _ _ _ _) (by decide) ?_
        refine head_pure rfl (by kernel_rfl) (.build [(_, _), (_, _), (_, _)] rfl (bd_55_0_1_2 _ _ _ _ _ _ _ _ _ _ _ _ _ _ _)) (by decide) ?_
        refine head_pure rfl (by kernel_rfl) (.binOp rfl rfl (fun _ => run_eqP _ _ ((latP d).getD k (0, 0, 0)) ((((latP d).getD i (0, 0, 0)).2.1, ((latP d).getD i (0, 0, 0)).2.2, ((latP d).getD i (0, 0, 0)).1)) _)) (by decide) ?_
        refine head_bool (fun hc91  => ?_) (fun hc91  => ?_)
        · skip
          have he1 : ((latP d).getD k (0, 0, 0)) = (((latP d).getD i (0, 0, 0)).2.1, ((latP d).getD i (0, 0, 0)).2.2, ((latP d).getD i (0, 0, 0)).1) := of_decide_eq_true hc91
          refine head_pure rfl (by kernel_rfl) (.move rfl) (by decide) ?_
          refine head_pass (t := 92) rfl rfl rfl rfl (by kernel_rfl) (by decide) ?_
          refine head_pass (t := 92) rfl rfl rfl rfl (by kernel_rfl) (by decide) ?_
          refine head_pass (t := 92) rfl rfl rfl rfl (by kernel_rfl) (by decide) ?_
          refine head_pass (t := 92) rfl rfl rfl rfl (by kernel_rfl) (by decide) ?_
          refine head_pass (t := 92) rfl rfl rfl rfl (by kernel_rfl) (by decide) ?_
          refine head_pass (t := 92) rfl rfl rfl rfl (by kernel_rfl) (by decide) ?_
          refine head_pass (t := 92) rfl rfl rfl rfl (by kernel_rfl) (by decide) ?_
          refine head_pass (t := 92) rfl rfl rfl rfl (by kernel_rfl) (by decide) ?_
          refine head_pass (t := 92) rfl rfl rfl rfl (by kernel_rfl) (by decide) ?_
          refine head_pure rfl (by kernel_rfl) (.pickT rfl rfl) (by decide) ?_
          refine head_pure rfl (by kernel_rfl) (.move rfl) (by decide) ?_
          refine head_pureG rfl rfl rfl (by kernel_rfl) (.fieldAddr rfl (fa_25_1 _ _)) (by decide) ?_
          refine head_loadG rfl rfl rfl (by kernel_rfl) rfl (by repeat (first | exact List.Mem.head _ | apply List.Mem.tail | apply List.mem_append_right)) Tryz.isAgg23 Tryz.sizeOf23 (rs_2_1 _ _) (by decide) ?_
          refine head_pureG rfl rfl rfl (by kernel_rfl) (.move rfl) (by decide) ?_
          refine head_pureG rfl rfl rfl (by kernel_rfl) (.indexAddr rfl rfl (ix_23 _ _ _ _ _ (by omega))) (by decide) ?_
          refine head_loadRowG rfl rfl rfl (by kernel_rfl) rfl (by first | assumption | (repeat (first | exact List.Mem.head _ | apply List.Mem.tail | apply List.mem_append_right))) (cells_lt (k := 5) (by decide) (fun _ => rfl) (latW d) i (by omega)) Tryz.isAgg42 Tryz.sizeOf42 (read_cells (k := 5) (fun _ => rfl) ((fun _ => rfl)) (latW d) 0 i (by omega)) (.inl rfl) (by decide) ?_
          refine head_pureG rfl rfl rfl (by kernel_rfl) (.fieldAddr rfl (fa_25_1 _ _)) (by decide) ?_
          refine head_loadG rfl rfl rfl (by kernel_rfl) rfl (by repeat (first | exact List.Mem.head _ | apply List.Mem.tail | apply List.mem_append_right)) Tryz.isAgg23 Tryz.sizeOf23 (rs_2_1 _ _) (by decide) ?_
          refine head_pureG rfl rfl rfl (by kernel_rfl) (.move rfl) (by decide) ?_
          refine head_pureG rfl rfl rfl (by kernel_rfl) (.indexAddr rfl rfl (ix_23 _ _ _ _ _ (by omega))) (by decide) ?_
          refine head_loadRowG rfl rfl rfl (by kernel_rfl) rfl (by first | assumption | (repeat (first | exact List.Mem.head _ | apply List.Mem.tail | apply List.mem_append_right))) (cells_lt (k := 5) (by decide) (fun _ => rfl) (latW d) k (by omega)) Tryz.isAgg42 Tryz.sizeOf42 (read_cells (k := 5) (fun _ => rfl) ((fun _ => rfl)) (latW d) 0 k (by omega)) (.inl rfl) (by decide) ?_
          refine head_pureG rfl rfl rfl (by kernel_rfl) (.binOp rfl rfl (fun _ => run_neQ _ _ ((latW d).getD i 0) ((latW d).getD k 0) _)) (by decide) ?_
          refine head_bool (fun hc114  => (by exfalso; have hw := (hsym i hlt_i k hlt_k).2 (by first | exact .inl he1 | exact .inr he2); rw [decide_eq_true hw] at hc114; exact absurd hc114 (by decide))) (fun hc114  => ?_)
          refine head_pure rfl (by kernel_rfl) (.pickT rfl rfl) (by decide) ?_
          refine head_nil ?_; intro a w h
          change Code.wp _ _ _ _ _
          refine cond_false h rfl ?_
          refine wp_skip ?_
          change Code.wp _ _ _ _ _
          refine wp_region_lit ?_
          refine wpl_plain (op_pure h (.move rfl) (by decide) ?_); clear h; intro a h
          refine wpl_plain (op_pure h (Pure1.cast (v' := (.int .i64 ((k + 1 : Nat) : Int))) (.binOp rfl rfl (fun _ => run_addb _ _ _ _ _ (wrap_i64 _ (by omega) (by omega)))) (by show Value.int _ _ = Value.int _ _; congr 1)) (by decide) ?_); clear h; intro a h
          refine wpl_plain (op_pure h (.assign rfl) (by decide) ?_); clear h; intro a h
          refine wpList_nil ?_
          exact ⟨k + 1, ⟨by omega, (h.drop (by repeat (first | exact List.Sublist.refl _ | apply List.Sublist.cons_cons | apply List.Sublist.cons))).sub (subL ⟨rfl, rfl, rfl, rfl, rfl, rfl, rfl, rfl, rfl, rfl, rfl, rfl, rfl, rfl, rfl, rfl, rfl, rfl, rfl, rfl, rfl, rfl, rfl, rfl, rfl, rfl, rfl, rfl, rfl, rfl, rfl, rfl, rfl, rfl, rfl, rfl, rfl, rfl, rfl, rfl, rfl, rfl, rfl, rfl, rfl, rfl, rfl, rfl, rfl, rfl, rfl, rfl, rfl, rfl, rfl, rfl, rfl, trivial⟩)⟩, by omega⟩
        · skip
          refine head_pure rfl (by kernel_rfl) (.move rfl) (by decide) ?_
          refine head_loadG rfl rfl rfl (by kernel_rfl) rfl (by repeat (first | exact List.Mem.head _ | apply List.Mem.tail | apply List.mem_append_right)) Tryz.isAgg55 Tryz.sizeOf55 (rd_15_0_15 _ _ _ _ _ _ _ _ _ _ _ _ _ _ _) (by decide) ?_
          refine head_pureG rfl rfl rfl (by kernel_rfl) (.indexAddr rfl rfl (ixc_55_1 _ _)) (by decide) ?_
          refine head_loadG rfl rfl rfl (by kernel_rfl) rfl (by repeat (first | exact List.Mem.head _ | apply List.Mem.tail | apply List.mem_append_right)) Tryz.isAgg42 Tryz.sizeOf42 (rd_15_5_5 _ _ _ _ _ _ _ _ _ _ _ _ _ _ _) (by decide) ?_
          refine head_pureG rfl rfl rfl (by kernel_rfl) (.indexAddr rfl rfl (ixc_55_0 _ _)) (by decide) ?_
          refine head_loadG rfl rfl rfl (by kernel_rfl) rfl (by repeat (first | exact List.Mem.head _ | apply List.Mem.tail | apply List.mem_append_right)) Tryz.isAgg42 Tryz.sizeOf42 (rd_15_0_5 _ _ _ _ _ _ _ _ _ _ _ _ _ _ _) (by decide) ?_
          refine head_pureG rfl rfl rfl (by kernel_rfl) (.indexAddr rfl rfl (ixc_55_2 _ _)) (by decide) ?_
          refine head_loadG rfl rfl rfl (by kernel_rfl) rfl (by repeat (first | exact List.Mem.head _ | apply List.Mem.tail | apply List.mem_append_right)) Tryz.isAgg42 Tryz.sizeOf42 (rd_15_10_5 _ _ _ _ _ _ _ _ _ _ _ _ _ _ _) (by decide) ?_
          refine head_pureG rfl rfl rfl (by kernel_rfl) (.build [(_, _), (_, _), (_, _)] rfl (bd_55_0_1_2 _ _ _ _ _ _ _ _ _ _ _ _ _ _ _)) (by decide) ?_
          refine head_pureG rfl rfl rfl (by kernel_rfl) (.binOp rfl rfl (fun _ => run_eqP _ _ ((latP d).getD k (0, 0, 0)) ((((latP d).getD i (0, 0, 0)).2.1, ((latP d).getD i (0, 0, 0)).1, ((latP d).getD i (0, 0, 0)).2.2)) _)) (by decide) ?_
          refine head_bool (fun hc101  => ?_) (fun hc101  => ?_)
          · skip
            have he2 : ((latP d).getD k (0, 0, 0)) = (((latP d).getD i (0, 0, 0)).2.1, ((latP d).getD i (0, 0, 0)).1, ((latP d).getD i (0, 0, 0)).2.2) := of_decide_eq_true hc101
            refine head_pure rfl (by kernel_rfl) (.pickF rfl rfl) (by decide) ?_
            refine head_pure rfl (by kernel_rfl) (.move rfl) (by decide) ?_
            refine head_pureG rfl rfl rfl (by kernel_rfl) (.fieldAddr rfl (fa_25_1 _ _)) (by decide) ?_
            refine head_loadG rfl rfl rfl (by kernel_rfl) rfl (by repeat (first | exact List.Mem.head _ | apply List.Mem.tail | apply List.mem_append_right)) Tryz.isAgg23 Tryz.sizeOf23 (rs_2_1 _ _) (by decide) ?_
            refine head_pureG rfl rfl rfl (by kernel_rfl) (.move rfl) (by decide) ?_
            refine head_pureG rfl rfl rfl (by kernel_rfl) (.indexAddr rfl rfl (ix_23 _ _ _ _ _ (by omega))) (by decide) ?_
            refine head_loadRowG rfl rfl rfl (by kernel_rfl) rfl (by first | assumption | (repeat (first | exact List.Mem.head _ | apply List.Mem.tail | apply List.mem_append_right))) (cells_lt (k := 5) (by decide) (fun _ => rfl) (latW d) i (by omega)) Tryz.isAgg42 Tryz.sizeOf42 (read_cells (k := 5) (fun _ => rfl) ((fun _ => rfl)) (latW d) 0 i (by omega)) (.inl rfl) (by decide) ?_
            refine head_pureG rfl rfl rfl (by kernel_rfl) (.fieldAddr rfl (fa_25_1 _ _)) (by decide) ?_
            refine head_loadG rfl rfl rfl (by kernel_rfl) rfl (by repeat (first | exact List.Mem.head _ | apply List.Mem.tail | apply List.mem_append_right)) Tryz.isAgg23 Tryz.sizeOf23 (rs_2_1 _ _) (by decide) ?_
            refine head_pureG rfl rfl rfl (by kernel_rfl) (.move rfl) (by decide) ?_
            refine head_pureG rfl rfl rfl (by kernel_rfl) (.indexAddr rfl rfl (ix_23 _ _ _ _ _ (by omega))) (by decide) ?_
            refine head_loadRowG rfl rfl rfl (by kernel_rfl) rfl (by first | assumption | (repeat (first | exact List.Mem.head _ | apply List.Mem.tail | apply List.mem_append_right))) (cells_lt (k := 5) (by decide) (fun _ => rfl) (latW d) k (by omega)) Tryz.isAgg42 Tryz.sizeOf42 (read_cells (k := 5) (fun _ => rfl) ((fun _ => rfl)) (latW d) 0 k (by omega)) (.inl rfl) (by decide) ?_
            refine head_pureG rfl rfl rfl (by kernel_rfl) (.binOp rfl rfl (fun _ => run_neQ _ _ ((latW d).getD i 0) ((latW d).getD k 0) _)) (by decide) ?_
            refine head_bool (fun hc114  => (by exfalso; have hw := (hsym i hlt_i k hlt_k).2 (by first | exact .inl he1 | exact .inr he2); rw [decide_eq_true hw] at hc114; exact absurd hc114 (by decide))) (fun hc114  => ?_)
            refine head_pure rfl (by kernel_rfl) (.pickT rfl rfl) (by decide) ?_
            refine head_nil ?_; intro a w h
            change Code.wp _ _ _ _ _
            refine cond_false h rfl ?_
            refine wp_skip ?_
            change Code.wp _ _ _ _ _
            refine wp_region_lit ?_
            refine wpl_plain (op_pure h (.move rfl) (by decide) ?_); clear h; intro a h
            refine wpl_plain (op_pure h (Pure1.cast (v' := (.int .i64 ((k + 1 : Nat) : Int))) (.binOp rfl rfl (fun _ => run_addb _ _ _ _ _ (wrap_i64 _ (by omega) (by omega)))) (by show Value.int _ _ = Value.int _ _; congr 1)) (by decide) ?_); clear h; intro a h
            refine wpl_plain (op_pure h (.assign rfl) (by decide) ?_); clear h; intro a h
            refine wpList_nil ?_
            exact ⟨k + 1, ⟨by omega, (h.drop (by repeat (first | exact List.Sublist.refl _ | apply List.Sublist.cons_cons | apply List.Sublist.cons))).sub (subL ⟨rfl, rfl, rfl, rfl, rfl, rfl, rfl, rfl, rfl, rfl, rfl, rfl, rfl, rfl, rfl, rfl, rfl, rfl, rfl, rfl, rfl, rfl, rfl, rfl, rfl, rfl, rfl, rfl, rfl, rfl, rfl, rfl, rfl, rfl, rfl, rfl, rfl, rfl, rfl, rfl, rfl, rfl, rfl, rfl, rfl, rfl, rfl, rfl, rfl, rfl, rfl, rfl, rfl, rfl, rfl, rfl, rfl, trivial⟩)⟩, by omega⟩
          · skip
            refine head_pure rfl (by kernel_rfl) (.pickF rfl rfl) (by decide) ?_
            refine head_pure rfl (by kernel_rfl) (.move rfl) (by decide) ?_
            refine head_pass (t := 103) rfl rfl rfl rfl (by kernel_rfl) (by decide) ?_
            refine head_pass (t := 103) rfl rfl rfl rfl (by kernel_rfl) (by decide) ?_
            refine head_pass (t := 103) rfl rfl rfl rfl (by kernel_rfl) (by decide) ?_
            refine head_pass (t := 103) rfl rfl rfl rfl (by kernel_rfl) (by decide) ?_
            refine head_pass (t := 103) rfl rfl rfl rfl (by kernel_rfl) (by decide) ?_
            refine head_pass (t := 103) rfl rfl rfl rfl (by kernel_rfl) (by decide) ?_
            refine head_pass (t := 103) rfl rfl rfl rfl (by kernel_rfl) (by decide) ?_
            refine head_pass (t := 103) rfl rfl rfl rfl (by kernel_rfl) (by decide) ?_
            refine head_pass (t := 103) rfl rfl rfl rfl (by kernel_rfl) (by decide) ?_
            refine head_pass (t := 103) rfl rfl rfl rfl (by kernel_rfl) (by decide) ?_
            refine head_pass (t := 103) rfl rfl rfl rfl (by kernel_rfl) (by decide) ?_
            refine head_pure rfl (by kernel_rfl) (.pickF rfl rfl) (by decide) ?_
            refine head_nil ?_; intro a w h
            change Code.wp _ _ _ _ _
            refine cond_false h rfl ?_
            refine wp_skip ?_
            change Code.wp _ _ _ _ _
            refine wp_region_lit ?_
            refine wpl_plain (op_pure h (.move rfl) (by decide) ?_); clear h; intro a h
            refine wpl_plain (op_pure h (Pure1.cast (v' := (.int .i64 ((k + 1 : Nat) : Int))) (.binOp rfl rfl (fun _ => run_addb _ _ _ _ _ (wrap_i64 _ (by omega) (by omega)))) (by show Value.int _ _ = Value.int _ _; congr 1)) (by decide) ?_); clear h; intro a h
            refine wpl_plain (op_pure h (.assign rfl) (by decide) ?_); clear h; intro a h
            refine wpList_nil ?_
            exact ⟨k + 1, ⟨by omega, (h.drop (by repeat (first | exact List.Sublist.refl _ | apply List.Sublist.cons_cons | apply List.Sublist.cons))).sub (subL ⟨rfl, rfl, rfl, rfl, rfl, rfl, rfl, rfl, rfl, rfl, rfl, rfl, rfl, rfl, rfl, rfl, rfl, rfl, rfl, rfl, rfl, rfl, rfl, rfl, rfl, rfl, rfl, rfl, rfl, rfl, rfl, rfl, rfl, rfl, rfl, rfl, rfl, rfl, rfl, rfl, rfl, rfl, rfl, rfl, rfl, rfl, rfl, rfl, rfl, rfl, rfl, rfl, rfl, rfl, rfl, rfl, rfl, trivial⟩)⟩, by omega⟩
      · skip
        refine wpl_plain (op_pure h (.move rfl) (by decide) ?_); clear h; intro a h
        refine wpl_pass 78 h rfl rfl rfl (by decide) ?_; clear h; intro a h
        refine wpl_pass 78 h rfl rfl rfl (by decide) ?_; clear h; intro a h
        refine wpl_pass 78 h rfl rfl rfl (by decide) ?_; clear h; intro a h
        refine wpl_plain (op_pure h (.pickF rfl rfl) (by decide) ?_); clear h; intro a h
        refine wpList_nil ?_
        change Code.wp _ _ _ _ _
        refine cond_false h rfl ?_
        refine wp_skip ?_
        change Code.wp _ _ _ _ _
        refine wp_seq ?_
        refine wp_draws mixed_YtfmbhcnanphckaaGreatDoor h [0, 1, 2, 3, 4, 5, 6, 7, 8, 9, 10, 11, 12, 13, 14, 15, 16, 17, 18, 19, 20, 21, 22, 23, 24, 25, 26, 27, 28, 29, 30, 31, 32] _ (fun _ _ hh => hh) (by kernel_rfl) (floatsOK_none (by kernel_rfl)) ?_; clear h
        refine head_load rfl (by kernel_rfl) rfl (by repeat (first | exact List.Mem.head _ | apply List.Mem.tail | apply List.mem_append_right)) Tryz.isAgg55 Tryz.sizeOf55 (rd_15_0_15 _ _ _ _ _ _ _ _ _ _ _ _ _ _ _) (by decide) ?_
        refine head_pure rfl (by kernel_rfl) (.indexAddr rfl rfl (ixc_55_1 _ _)) (by decide) ?_
        refine head_load rfl (by kernel_rfl) rfl (by repeat (first | exact List.Mem.head _ | apply List.Mem.tail | apply List.mem_append_right)) Tryz.isAgg42 Tryz.sizeOf42 (rd_15_5_5 _ _ _ _ _ _ _ _ _ _ _ _ _ _ _) (by decide) ?_
        refine head_pure rfl (by kernel_rfl) (.indexAddr rfl rfl (ixc_55_2 _ _)) (by decide) ?_
        refine head_load rfl (by kernel_rfl) rfl (by repeat (first | exact List.Mem.head _ | apply List.Mem.tail | apply List.mem_append_right)) Tryz.isAgg42 Tryz.sizeOf42 (rd_15_10_5 _ _ _ _ _ _ _ _ _ _ _ _ _ _ _) (by decide) ?_
        refine head_pure rfl (by kernel_rfl) (.indexAddr rfl rfl (ixc_55_0 _ _)) (by decide) ?_
        refine head_load rfl (by kernel_rfl) rfl (by repeat (first | exact List.Mem.head _ | apply List.Mem.tail | apply List.mem_append_right)) Tryz.isAgg42 Tryz.sizeOf42 (rd_15_0_5 _ _ _ _ _ _ _ _ _ _ _ _ _ _ _) (by decide) ?_
        refine head_pure rfl (by kernel_rfl) (.build [(_, _), (_, _), (_, _)] rfl (bd_55_0_1_2 _ _ _ _ _ _ _ _ _ _ _ _ _ _ _)) (by decide) ?_
        refine head_pure rfl (by kernel_rfl) (.binOp rfl rfl (fun _ => run_eqP _ _ ((latP d).getD k (0, 0, 0)) ((((latP d).getD i (0, 0, 0)).2.1, ((latP d).getD i (0, 0, 0)).2.2, ((latP d).getD i (0, 0, 0)).1)) _)) (by decide) ?_
        refine head_bool (fun hc91  => ?_) (fun hc91  => ?_)
        · skip
          have he1 : ((latP d).getD k (0, 0, 0)) = (((latP d).getD i (0, 0, 0)).2.1, ((latP d).getD i (0, 0, 0)).2.2, ((latP d).getD i (0, 0, 0)).1) := of_decide_eq_true hc91
          refine head_pure rfl (by kernel_rfl) (.move rfl) (by decide) ?_
          refine head_pass (t := 92) rfl rfl rfl rfl (by kernel_rfl) (by decide) ?_
          refine head_pass (t := 92) rfl rfl rfl rfl (by kernel_rfl) (by decide) ?_
          refine head_pass (t := 92) rfl rfl rfl rfl (by kernel_rfl) (by decide) ?_
          refine head_pass (t := 92) rfl rfl rfl rfl (by kernel_rfl) (by decide) ?_
          refine head_pass (t := 92) rfl rfl rfl rfl (by kernel_rfl) (by decide) ?_
          refine head_pass (t := 92) rfl rfl rfl rfl (by kernel_rfl) (by decide) ?_
          refine head_pass (t := 92) rfl rfl rfl rfl (by kernel_rfl) (by decide) ?_
          refine head_pass (t := 92) rfl rfl rfl rfl (by kernel_rfl) (by decide) ?_
          refine head_pass (t := 92) rfl rfl rfl rfl (by kernel_rfl) (by decide) ?_
          refine head_pure rfl (by kernel_rfl) (.pickT rfl rfl) (by decide) ?_
          refine head_pure rfl (by kernel_rfl) (.move rfl) (by decide) ?_
          refine head_pureG rfl rfl rfl (by kernel_rfl) (.fieldAddr rfl (fa_25_1 _ _)) (by decide) ?_
          refine head_loadG rfl rfl rfl (by kernel_rfl) rfl (by repeat (first | exact List.Mem.head _ | apply List.Mem.tail | apply List.mem_append_right)) Tryz.isAgg23 Tryz.sizeOf23 (rs_2_1 _ _) (by decide) ?_
          refine head_pureG rfl rfl rfl (by kernel_rfl) (.move rfl) (by decide) ?_
          refine head_pureG rfl rfl rfl (by kernel_rfl) (.indexAddr rfl rfl (ix_23 _ _ _ _ _ (by omega))) (by decide) ?_
          refine head_loadRowG rfl rfl rfl (by kernel_rfl) rfl (by first | assumption | (repeat (first | exact List.Mem.head _ | apply List.Mem.tail | apply List.mem_append_right))) (cells_lt (k := 5) (by decide) (fun _ => rfl) (latW d) i (by omega)) Tryz.isAgg42 Tryz.sizeOf42 (read_cells (k := 5) (fun _ => rfl) ((fun _ => rfl)) (latW d) 0 i (by omega)) (.inl rfl) (by decide) ?_
          refine head_pureG rfl rfl rfl (by kernel_rfl) (.fieldAddr rfl (fa_25_1 _ _)) (by decide) ?_
          refine head_loadG rfl rfl rfl (by kernel_rfl) rfl (by repeat (first | exact List.Mem.head _ | apply List.Mem.tail | apply List.mem_append_right)) Tryz.isAgg23 Tryz.sizeOf23 (rs_2_1 _ _) (by decide) ?_
          refine head_pureG rfl rfl rfl (by kernel_rfl) (.move rfl) (by decide) ?_
          refine head_pureG rfl rfl rfl (by kernel_rfl) (.indexAddr rfl rfl (ix_23 _ _ _ _ _ (by omega))) (by decide) ?_
          refine head_loadRowG rfl rfl rfl (by kernel_rfl) rfl (by first | assumption | (repeat (first | exact List.Mem.head _ | apply List.Mem.tail | apply List.mem_append_right))) (cells_lt (k := 5) (by decide) (fun _ => rfl) (latW d) k (by omega)) Tryz.isAgg42 Tryz.sizeOf42 (read_cells (k := 5) (fun _ => rfl) ((fun _ => rfl)) (latW d) 0 k (by omega)) (.inl rfl) (by decide) ?_
          refine head_pureG rfl rfl rfl (by kernel_rfl) (.binOp rfl rfl (fun _ => run_neQ _ _ ((latW d).getD i 0) ((latW d).getD k 0) _)) (by decide) ?_
          refine head_bool (fun hc114  => (by exfalso; have hw := (hsym i hlt_i k hlt_k).2 (by first | exact .inl he1 | exact .inr he2); rw [decide_eq_true hw] at hc114; exact absurd hc114 (by decide))) (fun hc114  => ?_)
          refine head_pure rfl (by kernel_rfl) (.pickT rfl rfl) (by decide) ?_
          refine head_nil ?_; intro a w h
          change Code.wp _ _ _ _ _
          refine cond_false h rfl ?_
          refine wp_skip ?_
          change Code.wp _ _ _ _ _
          refine wp_region_lit ?_
          refine wpl_plain (op_pure h (.move rfl) (by decide) ?_); clear h; intro a h
          refine wpl_plain (op_pure h (Pure1.cast (v' := (.int .i64 ((k + 1 : Nat) : Int))) (.binOp rfl rfl (fun _ => run_addb _ _ _ _ _ (wrap_i64 _ (by omega) (by omega)))) (by show Value.int _ _ = Value.int _ _; congr 1)) (by decide) ?_); clear h; intro a h
          refine wpl_plain (op_pure h (.assign rfl) (by decide) ?_); clear h; intro a h
          refine wpList_nil ?_
          exact ⟨k + 1, ⟨by omega, (h.drop (by repeat (first | exact List.Sublist.refl _ | apply List.Sublist.cons_cons | apply List.Sublist.cons))).sub (subL ⟨rfl, rfl, rfl, rfl, rfl, rfl, rfl, rfl, rfl, rfl, rfl, rfl, rfl, rfl, rfl, rfl, rfl, rfl, rfl, rfl, rfl, rfl, rfl, rfl, rfl, rfl, rfl, rfl, rfl, rfl, rfl, rfl, rfl, rfl, rfl, rfl, rfl, rfl, rfl, rfl, rfl, rfl, rfl, rfl, rfl, rfl, rfl, rfl, rfl, rfl, rfl, rfl, rfl, rfl, rfl, rfl, rfl, trivial⟩)⟩, by omega⟩
        · skip
          refine head_pure rfl (by kernel_rfl) (.move rfl) (by decide) ?_
          refine head_loadG rfl rfl rfl (by kernel_rfl) rfl (by repeat (first | exact List.Mem.head _ | apply List.Mem.tail | apply List.mem_append_right)) Tryz.isAgg55 Tryz.sizeOf55 (rd_15_0_15 _ _ _ _ _ _ _ _ _ _ _ _ _ _ _) (by decide) ?_
          refine head_pureG rfl rfl rfl (by kernel_rfl) (.indexAddr rfl rfl (ixc_55_1 _ _)) (by decide) ?_
          refine head_loadG rfl rfl rfl (by kernel_rfl) rfl (by repeat (first | exact List.Mem.head _ | apply List.Mem.tail | apply List.mem_append_right)) Tryz.isAgg42 Tryz.sizeOf42 (rd_15_5_5 _ _ _ _ _ _ _ _ _ _ _ _ _ _ _) (by decide) ?_
          refine head_pureG rfl rfl rfl (by kernel_rfl) (.indexAddr rfl rfl (ixc_55_0 _ _)) (by decide) ?_
          refine head_loadG rfl rfl rfl (by kernel_rfl) rfl (by repeat (first | exact List.Mem.head _ | apply List.Mem.tail | apply List.mem_append_right)) Tryz.isAgg42 Tryz.sizeOf42 (rd_15_0_5 _ _ _ _ _ _ _ _ _ _ _ _ _ _ _) (by decide) ?_
          refine head_pureG rfl rfl rfl (by kernel_rfl) (.indexAddr rfl rfl (ixc_55_2 _ _)) (by decide) ?_
          refine head_loadG rfl rfl rfl (by kernel_rfl) rfl (by repeat (first | exact List.Mem.head _ | apply List.Mem.tail | apply List.mem_append_right)) Tryz.isAgg42 Tryz.sizeOf42 (rd_15_10_5 _ _ _ _ _ _ _ _ _ _ _ _ _ _ _) (by decide) ?_
          refine head_pureG rfl rfl rfl (by kernel_rfl) (.build [(_, _), (_, _), (_, _)] rfl (bd_55_0_1_2 _ _ _ _ _ _ _ _ _ _ _ _ _ _ _)) (by decide) ?_
          refine head_pureG rfl rfl rfl (by kernel_rfl) (.binOp rfl rfl (fun _ => run_eqP _ _ ((latP d).getD k (0, 0, 0)) ((((latP d).getD i (0, 0, 0)).2.1, ((latP d).getD i (0, 0, 0)).1, ((latP d).getD i (0, 0, 0)).2.2)) _)) (by decide) ?_
          refine head_bool (fun hc101  => ?_) (fun hc101  => ?_)
          · skip
            have he2 : ((latP d).getD k (0, 0, 0)) = (((latP d).getD i (0, 0, 0)).2.1, ((latP d).getD i (0, 0, 0)).1, ((latP d).getD i (0, 0, 0)).2.2) := of_decide_eq_true hc101
            refine head_pure rfl (by kernel_rfl) (.pickF rfl rfl) (by decide) ?_
            refine head_pure rfl (by kernel_rfl) (.move rfl) (by decide) ?_
            refine head_pureG rfl rfl rfl (by kernel_rfl) (.fieldAddr rfl (fa_25_1 _ _)) (by decide) ?_
            refine head_loadG rfl rfl rfl (by kernel_rfl) rfl (by repeat (first | exact List.Mem.head _ | apply List.Mem.tail | apply List.mem_append_right)) Tryz.isAgg23 Tryz.sizeOf23 (rs_2_1 _ _) (by decide) ?_
            refine head_pureG rfl rfl rfl (by kernel_rfl) (.move rfl) (by decide) ?_
            refine head_pureG rfl rfl rfl (by kernel_rfl) (.indexAddr rfl rfl (ix_23 _ _ _ _ _ (by omega))) (by decide) ?_
            refine head_loadRowG rfl rfl rfl (by kernel_rfl) rfl (by first | assumption | (repeat (first | exact List.Mem.head _ | apply List.Mem.tail | apply List.mem_append_right))) (cells_lt (k := 5) (by decide) (fun _ => rfl) (latW d) i (by omega)) Tryz.isAgg42 Tryz.sizeOf42 (read_cells (k := 5) (fun _ => rfl) ((fun _ => rfl)) (latW d) 0 i (by omega)) (.inl rfl) (by decide) ?_
            refine head_pureG rfl rfl rfl (by kernel_rfl) (.fieldAddr rfl (fa_25_1 _ _)) (by decide) ?_
            refine head_loadG rfl rfl rfl (by kernel_rfl) rfl (by repeat (first | exact List.Mem.head _ | apply List.Mem.tail | apply List.mem_append_right)) Tryz.isAgg23 Tryz.sizeOf23 (rs_2_1 _ _) (by decide) ?_
            refine head_pureG rfl rfl rfl (by kernel_rfl) (.move rfl) (by decide) ?_
            refine head_pureG rfl rfl rfl (by kernel_rfl) (.indexAddr rfl rfl (ix_23 _ _ _ _ _ (by omega))) (by decide) ?_
            refine head_loadRowG rfl rfl rfl (by kernel_rfl) rfl (by first | assumption | (repeat (first | exact List.Mem.head _ | apply List.Mem.tail | apply List.mem_append_right))) (cells_lt (k := 5) (by decide) (fun _ => rfl) (latW d) k (by omega)) Tryz.isAgg42 Tryz.sizeOf42 (read_cells (k := 5) (fun _ => rfl) ((fun _ => rfl)) (latW d) 0 k (by omega)) (.inl rfl) (by decide) ?_
            refine head_pureG rfl rfl rfl (by kernel_rfl) (.binOp rfl rfl (fun _ => run_neQ _ _ ((latW d).getD i 0) ((latW d).getD k 0) _)) (by decide) ?_
            refine head_bool (fun hc114  => (by exfalso; have hw := (hsym i hlt_i k hlt_k).2 (by first | exact .inl he1 | exact .inr he2); rw [decide_eq_true hw] at hc114; exact absurd hc114 (by decide))) (fun hc114  => ?_)
            refine head_pure rfl (by kernel_rfl) (.pickT rfl rfl) (by decide) ?_
            refine head_nil ?_; intro a w h
            change Code.wp _ _ _ _ _
            refine cond_false h rfl ?_
            refine wp_skip ?_
            change Code.wp _ _ _ _ _
            refine wp_region_lit ?_
            refine wpl_plain (op_pure h (.move rfl) (by decide) ?_); clear h; intro a h
            refine wpl_plain (op_pure h (Pure1.cast (v' := (.int .i64 ((k + 1 : Nat) : Int))) (.binOp rfl rfl (fun _ => run_addb _ _ _ _ _ (wrap_i64 _ (by omega) (by omega)))) (by show Value.int _ _ = Value.int _ _; congr 1)) (by decide) ?_); clear h; intro a h
            refine wpl_plain (op_pure h (.assign rfl) (by decide) ?_); clear h; intro a h
            refine wpList_nil ?_
            exact ⟨k + 1, ⟨by omega, (h.drop (by repeat (first | exact List.Sublist.refl _ | apply List.Sublist.cons_cons | apply List.Sublist.cons))).sub (subL ⟨rfl, rfl, rfl, rfl, rfl, rfl, rfl, rfl, rfl, rfl, rfl, rfl, rfl, rfl, rfl, rfl, rfl, rfl, rfl, rfl, rfl, rfl, rfl, rfl, rfl, rfl, rfl, rfl, rfl, rfl, rfl, rfl, rfl, rfl, rfl, rfl, rfl, rfl, rfl, rfl, rfl, rfl, rfl, rfl, rfl, rfl, rfl, rfl, rfl, rfl, rfl, rfl, rfl, rfl, rfl, rfl, rfl, trivial⟩)⟩, by omega⟩
          · skip
            refine head_pure rfl (by kernel_rfl) (.pickF rfl rfl) (by decide) ?_
            refine head_pure rfl (by kernel_rfl) (.move rfl) (by decide) ?_
            refine head_pass (t := 103) rfl rfl rfl rfl (by kernel_rfl) (by decide) ?_
            refine head_pass (t := 103) rfl rfl rfl rfl (by kernel_rfl) (by decide) ?_
            refine head_pass (t := 103) rfl rfl rfl rfl (by kernel_rfl) (by decide) ?_
            refine head_pass (t := 103) rfl rfl rfl rfl (by kernel_rfl) (by decide) ?_
            refine head_pass (t := 103) rfl rfl rfl rfl (by kernel_rfl) (by decide) ?_
            refine head_pass (t := 103) rfl rfl rfl rfl (by kernel_rfl) (by decide) ?_
            refine head_pass (t := 103) rfl rfl rfl rfl (by kernel_rfl) (by decide) ?_
            refine head_pass (t := 103) rfl rfl rfl rfl (by kernel_rfl) (by decide) ?_
            refine head_pass (t := 103) rfl rfl rfl rfl (by kernel_rfl) (by decide) ?_
            refine head_pass (t := 103) rfl rfl rfl rfl (by kernel_rfl) (by decide) ?_
            refine head_pass (t := 103) rfl rfl rfl rfl (by kernel_rfl) (by decide) ?_
            refine head_pure rfl (by kernel_rfl) (.pickF rfl rfl) (by decide) ?_
            refine head_nil ?_; intro a w h
            change Code.wp _ _ _ _ _
            refine cond_false h rfl ?_
            refine wp_skip ?_
            change Code.wp _ _ _ _ _
            refine wp_region_lit ?_
            refine wpl_plain (op_pure h (.move rfl) (by decide) ?_); clear h; intro a h
            refine wpl_plain (op_pure h (Pure1.cast (v' := (.int .i64 ((k + 1 : Nat) : Int))) (.binOp rfl rfl (fun _ => run_addb _ _ _ _ _ (wrap_i64 _ (by omega) (by omega)))) (by show Value.int _ _ = Value.int _ _; congr 1)) (by decide) ?_); clear h; intro a h
            refine wpl_plain (op_pure h (.assign rfl) (by decide) ?_); clear h; intro a h
            refine wpList_nil ?_
            exact ⟨k + 1, ⟨by omega, (h.drop (by repeat (first | exact List.Sublist.refl _ | apply List.Sublist.cons_cons | apply List.Sublist.cons))).sub (subL ⟨rfl, rfl, rfl, rfl, rfl, rfl, rfl, rfl, rfl, rfl, rfl, rfl, rfl, rfl, rfl, rfl, rfl, rfl, rfl, rfl, rfl, rfl, rfl, rfl, rfl, rfl, rfl, rfl, rfl, rfl, rfl, rfl, rfl, rfl, rfl, rfl, rfl, rfl, rfl, rfl, rfl, rfl, rfl, rfl, rfl, rfl, rfl, rfl, rfl, rfl, rfl, rfl, rfl, rfl, rfl, rfl, rfl, trivial⟩)⟩, by omega⟩
    · skip
      have heq_k : (latP d).length = k := by have := of_decide_eq_false hc67; omega
      subst heq_k
      refine wp_exit ?_
      change Code.wp _ _ _ _ _
      refine wp_region_lit ?_
      refine wpl_plain (op_pure h (.move rfl) (by decide) ?_); clear h; intro a h
      refine wpl_plain (op_pure h (Pure1.cast (v' := (.int .i64 ((i + 1 : Nat) : Int))) (.binOp rfl rfl (fun _ => run_addb _ _ _ _ _ (wrap_i64 _ (by omega) (by omega)))) (by show Value.int _ _ = Value.int _ _; congr 1)) (by decide) ?_); clear h; intro a h
      refine wpl_plain (op_pure h (.assign rfl) (by decide) ?_); clear h; intro a h
      refine wpList_nil ?_
      exact ⟨i + 1, ⟨by omega, (h.drop (by repeat (first | exact List.Sublist.refl _ | apply List.Sublist.cons_cons | apply List.Sublist.cons))).sub (subL ⟨rfl, rfl, rfl, rfl, rfl, rfl, rfl, rfl, rfl, rfl, rfl, rfl, rfl, rfl, rfl, rfl, rfl, rfl, rfl, rfl, rfl, rfl, rfl, rfl, rfl, rfl, rfl, rfl, rfl, rfl, rfl, rfl, rfl, rfl, rfl, rfl, rfl, rfl, rfl, rfl, rfl, rfl, rfl, rfl, rfl, rfl, trivial⟩)⟩, by omega⟩
  · skip
    have heq_i : (latP d).length = i := by have := of_decide_eq_false hc55; omega
    subst heq_i
    refine wp_exit ?_
    change Code.wp _ _ _ _ _
    refine wp_seq ?_
    refine wp_region_lit ?_
    refine wpl_plain (op_callV h (vs := []) rfl Tryz.call13 (C_works) (by decide) ?_); clear h; intro a w h
    refine wpl_plain (op_pure h (.assign rfl) (by decide) ?_); clear h; intro a h
    refine wpList_nil ?_
    change Code.wp _ _ _ _ _
    refine wp_ret ?_
    refine retV h (results1 h rfl (.tmp rfl)) ?_
    rfl
end Go.Proofs.YtfmbhcnanphckaaGreatDoor
