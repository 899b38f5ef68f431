/- Written by a program of ours (gen.py) out of short specifications. By an AI agent. -/
import Derived.Test.YtfmbhcnanphckaaGreatDoorRef5
set_option linter.unusedVariables false
set_option linter.unusedSimpArgs false
set_option maxRecDepth 4000
namespace Go.Proofs.YtfmbhcnanphckaaGreatDoor
open Go Go.Proofs Go.Fx
attribute [local irreducible] Oper.wp Code.wp wpList Fx.Head wpOp
theorem fa_66_0 (b off : Nat) (w : World) : (Instr.fieldAt 66 (.pointer (some ⟨b, off, none⟩)) 0).run Tryz.prog w = .ok (.pointer (some ⟨b, off + 0, none⟩)) w := by
  simp [go_sem]
theorem fa_66_1 (b off : Nat) (w : World) : (Instr.fieldAt 66 (.pointer (some ⟨b, off, none⟩)) 1).run Tryz.prog w = .ok (.pointer (some ⟨b, off + 1, none⟩)) w := by
  simp [go_sem]
theorem cv_64_2 (x : Int) (w : World) : (Go.convert 64 2 (.int .u32 x)).run Tryz.prog w = .ok (.int .i64 (IntKind.i64.wrap x)) w := by
  simp [go_sem]
theorem cv_64_2b (x : Int) (h0 : IntKind.i64.wrap x = x) (w : World) : (Go.convert 64 2 (.int .u32 x)).run Tryz.prog w = .ok (.int .i64 x) w := by
  rw [cv_64_2, h0]
theorem len_slice_62 (a : Option Addr) (n c : Nat) (w : World) (ty : TypeId) (cs : Array Bool) : (Go.builtin .len #[62] ty cs #[.slice a n c]).run Tryz.prog w = .ok (.value (.int .i64 n)) w := by
  simp [go_sem]
theorem ix_62 (b off n c j : Nat) (h : j < n) (w : World) : (Instr.indexAt 62 (.slice (some ⟨b, off, none⟩) n c) (.int .i64 (j : Int))).run Tryz.prog w = .ok (.pointer (some ⟨b, off + j * 6, none⟩)) w := by
  simpa using indexAt_slice Tryz.runUnderlying62 Tryz.sizeOf68 b off n c j h w
theorem fa_68_0 (b off : Nat) (w : World) : (Instr.fieldAt 68 (.pointer (some ⟨b, off, none⟩)) 0).run Tryz.prog w = .ok (.pointer (some ⟨b, off + 0, none⟩)) w := by
  simp [go_sem]
theorem fa_68_1 (b off : Nat) (w : World) : (Instr.fieldAt 68 (.pointer (some ⟨b, off, none⟩)) 1).run Tryz.prog w = .ok (.pointer (some ⟨b, off + 2, none⟩)) w := by
  simp [go_sem]
theorem fa_68_2 (b off : Nat) (w : World) : (Instr.fieldAt 68 (.pointer (some ⟨b, off, none⟩)) 2).run Tryz.prog w = .ok (.pointer (some ⟨b, off + 4, none⟩)) w := by
  simp [go_sem]
theorem bd_72_0_1_2 (x0_0 : Value) (x0_1 : Value) (x0_2 : Value) (x1_0 : Value) (x1_1 : Value) (x1_2 : Value) (x2_0 : Value) (x2_1 : Value) (x2_2 : Value) (w : World) : (Instr.build 72 [(0, .agg #[x0_0, x0_1, x0_2]), (1, .agg #[x1_0, x1_1, x1_2]), (2, .agg #[x2_0, x2_1, x2_2])].toArray).run Tryz.prog w = .ok (.agg #[x0_0, x0_1, x0_2, x1_0, x1_1, x1_2, x2_0, x2_1, x2_2]) w := by simp [go_sem]
theorem bs_63_1_0 (x0_0 : Value) (x0_1 : Value) (x0_2 : Value) (x0_3 : Value) (x0_4 : Value) (x0_5 : Value) (x0_6 : Value) (x0_7 : Value) (x0_8 : Value) (w : World) : (Instr.buildSlice 63 1 [(0, .agg #[x0_0, x0_1, x0_2, x0_3, x0_4, x0_5, x0_6, x0_7, x0_8])].toArray).run Tryz.prog w = .ok (.slice (some ⟨w.heap.size, 0, none⟩) 1 1) (w.alloc (.cells #[x0_0, x0_1, x0_2, x0_3, x0_4, x0_5, x0_6, x0_7, x0_8] 72 (0, 0))) := by
  simp [go_sem]
theorem bs_51_1_0 (x0_0 : Value) (x0_1 : Value) (x0_2 : Value) (w : World) : (Instr.buildSlice 51 1 [(0, .agg #[x0_0, x0_1, x0_2])].toArray).run Tryz.prog w = .ok (.slice (some ⟨w.heap.size, 0, none⟩) 1 1) (w.alloc (.cells #[x0_0, x0_1, x0_2] 50 (0, 0))) := by
  simp [go_sem]
/-- A number as the statement gives it: N divided by D, or by 1. -/
def qv (N D : Int) : Rat := ((N : Int) : Rat) / ((max D 1 : Int) : Rat)
theorem lenQ_qv (N D : Int) (h0 : -9223372036854775808 ≤ N) (h1 : N ≤ 9223372036854775807) (h2 : 0 ≤ D) (h3 : D ≤ 4294967295) : lenQ (qv N D) ≤ 4 := lenQ_of N (max D 1) h0 h1 (by omega) (by omega)
theorem bi_maxu (x y : Int) (w : World) (ty : TypeId) (cs : Array Bool) : (Go.builtin .max #[64, 64] ty cs #[.int .u32 x, .int .u32 y]).run Tryz.prog w = .ok (.value (.int .u32 (max x y))) w := by
  simp [go_sem]; rw [Int.max_def]; split <;> split <;> omega

theorem C_qOf (N D : Int) (h0 : -9223372036854775808 ≤ N) (h1 : N ≤ 9223372036854775807) (h2 : 0 ≤ D) (h3 : D ≤ 4294967295) : CtrV Tryz.prog 31 [.agg #[.int .i64 N, .int .u32 D]] (encQ (qv N D)) := by
  refine fn_intro Tryz.func31 rfl Tryz.ntmps31 (Nat.le_of_ble_eq_true rfl) ?_
  intro S w0 a hS h
  refine wp_seq ?_
  refine wp_region_lit ?_
  refine wpl_plain (op_box h rfl (by decide) ?_); clear h; intro b1 a w h
  refine wpl_plain (op_alloc h zeroQ (by decide) ?_); clear h; intro b2 a w h
  refine wpList_nil ?_
  change Code.wp _ _ _ _ _
  refine wp_seq ?_
  refine wp_region_lit ?_
  refine wpl_plain (op_pure h (.fieldAddr rfl (fa_66_0 _ _)) (by decide) ?_); clear h; intro a h
  refine wpl_plain (op_load h rfl (by repeat (first | exact List.Mem.head _ | apply List.Mem.tail | apply List.mem_append_right)) Tryz.isAgg2 Tryz.sizeOf2 (rs_2_0 _ _) (by decide) ?_); clear h; intro a h
  refine wpl_plain (op_pure h (.fieldAddr rfl (fa_66_1 _ _)) (by decide) ?_); clear h; intro a h
  refine wpl_plain (op_load h rfl (by repeat (first | exact List.Mem.head _ | apply List.Mem.tail | apply List.mem_append_right)) Tryz.isAgg64 Tryz.sizeOf64 (rs_2_1 _ _) (by decide) ?_); clear h; intro a h
  refine wpl_plain (op_pure h (.builtin [_, _] rfl (fun w ty cs => bi_maxu _ _ w ty cs)) (by decide) ?_); clear h; intro a h
  refine wpl_plain (op_pure h (.convert rfl (cv_64_2b _ (wrap_i64 _ (by omega) (by omega)))) (by decide) ?_); clear h; intro a h
  refine wpl_plain (op_callV h (vs := [_, _]) rfl Tryz.call50 (C_QOf _ _ (by omega) (by omega) (by omega) (by omega) (by omega)) (by decide) ?_); clear h; intro a w h
  have hl12 := lenQ_of (N) (max D 1) (by omega) (by omega) (by omega) (by omega)
  refine wpl_plain (op_pure h (.move rfl) (by decide) ?_); clear h; intro a h
  refine wpl_plain (op_pure h (.extract rfl (fun _ => rfl)) (by decide) ?_); clear h; intro a h
  refine wpl_plain (op_pure h (.extract rfl (fun _ => rfl)) (by decide) ?_); clear h; intro a h
  refine wpl_plain (op_alloc h zeroQ (by decide) ?_); clear h; intro b3 a w h
  refine wpl_plain (op_store h rfl rfl (st_5_0_5 _ _ _ _ _ _ _ _ _ _) (by repeat (first | exact Upd.head | apply Upd.tail | apply Upd.append)) Tryz.sizeOf42 rfl (Nat.le_of_ble_eq_true rfl) rfl ?_); clear h; intro a w h
  refine wpl_plain (op_pure h (.assign rfl) (by decide) ?_); clear h; intro a h
  refine wpList_nil ?_
  change Code.wp _ _ _ _ _
  refine wp_seq ?_
  refine wp_region_lit ?_
  refine wpl_plain (op_load h rfl (by repeat (first | exact List.Mem.head _ | apply List.Mem.tail | apply List.mem_append_right)) Tryz.isAgg42 Tryz.sizeOf42 (rd_5_0_5 _ _ _ _ _) (by decide) ?_); clear h; intro a h
  refine wpl_plain (op_store h rfl rfl (st_5_0_5 _ _ _ _ _ _ _ _ _ _) (by repeat (first | exact Upd.head | apply Upd.tail | apply Upd.append)) Tryz.sizeOf42 rfl (Nat.le_of_ble_eq_true rfl) rfl ?_); clear h; intro a w h
  refine wpList_nil ?_
  change Code.wp _ _ _ _ _
  refine wp_ret ?_
  refine retV h (results1 h rfl (.cell rfl (by repeat (first | exact List.Mem.head _ | apply List.Mem.tail | apply List.mem_append_right)) Tryz.isAgg42 Tryz.sizeOf42 (rd_5_0_5 _ _ _ _ _))) ?_
  rfl

theorem C_qRef (N D : Int) (h0 : -9223372036854775808 ≤ N) (h1 : N ≤ 9223372036854775807) (h2 : 0 ≤ D) (h3 : D ≤ 4294967295) : Ctr Tryz.prog 22 [.agg #[.int .i64 N, .int .u32 D]] [] (PostF (qv N D)) := by
  refine fn_intro Tryz.func22 rfl Tryz.ntmps22 (Nat.le_of_ble_eq_true rfl) ?_
  intro S w0 a hS h
  refine wp_seq ?_
  refine wp_region_lit ?_
  refine wpl_plain (op_box h rfl (by decide) ?_); clear h; intro b1 a w h
  refine wpl_plain (op_alloc h zeroF (by decide) ?_); clear h; intro b2 a w h
  refine wpList_nil ?_
  change Code.wp _ _ _ _ _
  refine wp_seq ?_
  refine wp_region_lit ?_
  refine wpl_plain (op_pure h (.fieldAddr rfl (fa_66_0 _ _)) (by decide) ?_); clear h; intro a h
  refine wpl_plain (op_load h rfl (by repeat (first | exact List.Mem.head _ | apply List.Mem.tail | apply List.mem_append_right)) Tryz.isAgg2 Tryz.sizeOf2 (rs_2_0 _ _) (by decide) ?_); clear h; intro a h
  refine wpl_plain (op_pure h (.fieldAddr rfl (fa_66_1 _ _)) (by decide) ?_); clear h; intro a h
  refine wpl_plain (op_load h rfl (by repeat (first | exact List.Mem.head _ | apply List.Mem.tail | apply List.mem_append_right)) Tryz.isAgg64 Tryz.sizeOf64 (rs_2_1 _ _) (by decide) ?_); clear h; intro a h
  refine wpl_plain (op_pure h (.builtin [_, _] rfl (fun w ty cs => bi_maxu _ _ w ty cs)) (by decide) ?_); clear h; intro a h
  refine wpl_plain (op_pure h (.convert rfl (cv_64_2b _ (wrap_i64 _ (by omega) (by omega)))) (by decide) ?_); clear h; intro a h
  refine wpl_plain (op_call h (vs := [_, _]) rfl Tryz.call54 (C_fOf N (max D 1) (by omega) (by omega) (by omega) (by omega)) (by simp) (by decide) ?_); clear h; rintro v9 Ψ9 a w ⟨ad9, c9, bd9, d9, rfl, hle9, hlf9, rfl⟩ h
  have hl9 := lenQ_of N (max D 1) (by omega) (by omega) (by omega) (by omega)
  refine wpl_plain (op_store h rfl rfl (st_3_0_3 _ _ _ _ _ _) (by repeat (first | exact Upd.head | apply Upd.tail | apply Upd.append)) Tryz.sizeOf50 rfl (Nat.le_of_ble_eq_true rfl) rfl ?_); clear h; intro a w h
  refine wpList_nil ?_
  change Code.wp _ _ _ _ _
  refine wp_ret ?_
  refine ret_of (Ψ := [Row ad9 (List.map encn (dg (((N : Int) : Rat) / ((max D 1 : Int) : Rat)).num.natAbs)), Row bd9 (List.map encn (dg ((((N : Int) : Rat) / ((max D 1 : Int) : Rat)).den - 1)))]) h (results1 h rfl (.cell rfl (by repeat (first | exact List.Mem.head _ | apply List.Mem.tail | apply List.mem_append_right)) Tryz.isAgg50 Tryz.sizeOf50 (rd_3_0_3 _ _ _))) ?_ (by simp)
  unfold qv; exact ⟨ad9, c9, bd9, d9, rfl, hle9, hlf9, rfl⟩

abbrev encQ2 (q : Int × Int) : Value := .agg #[.int .i64 q.1, .int .u32 q.2]
abbrev encW (w : (Int × Int) × (Int × Int) × (Int × Int)) : Value := .agg #[.int .i64 w.1.1, .int .u32 w.1.2, .int .i64 w.2.1.1, .int .u32 w.2.1.2, .int .i64 w.2.2.1, .int .u32 w.2.2.2]
def flW (l : List ((Int × Int) × (Int × Int) × (Int × Int))) : List (Int × Int) := l.flatMap (fun p => [p.1, p.2.1, p.2.2])
theorem cells_flW : ∀ l, cellsOf encW l = cellsOf encQ2 (flW l)
  | [] => rfl
  | p :: l => by
    have h := cells_flW l
    unfold flW cellsOf at *
    rw [List.flatMap_cons, List.flatMap_cons, List.flatMap_append, ← h]; rfl
theorem flW_len : ∀ l, (flW l).length = 3 * l.length
  | [] => rfl
  | p :: l => by
    have h := flW_len l
    unfold flW at *
    rw [List.flatMap_cons, List.length_append, h]; show 3 + 3 * l.length = 3 * (l.length + 1); omega
/-- The bounds of the statement's numbers. -/
def OkQ (q : Int × Int) : Prop := -9223372036854775808 ≤ q.1 ∧ q.1 ≤ 9223372036854775807 ∧ 0 ≤ q.2 ∧ q.2 ≤ 4294967295
def qa (T : List (Int × Int)) (j : Nat) : Rat := qv (T.getD j (0, 0)).1 (T.getD j (0, 0)).2
def madP (T : List (Int × Int)) (i : Nat) : Rat × Rat × Rat := (qa T (3 * i + 0), qa T (3 * i + 1), ((1 : Int) : Rat) - qa T (3 * i + 0) - qa T (3 * i + 1))
def madW (T : List (Int × Int)) (i : Nat) : Rat := qa T (3 * i + 2)
def PostMade (T : List (Int × Int)) (n : Nat) (v : Value) (Ψ : List SPred) : Prop := ∃ ad1 c1 ad2 c2, v = .agg #[.slice ad1 (lstT (madP T) n).length c1, .slice ad2 (lstT (madW T) n).length c2] ∧ Ψ = [Row ad2 (cellsOf encQ (lstT (madW T) n)), Row ad1 (cellsOf encP (lstT (madP T) n))]

theorem C_made (ad : Option Addr) (c : Nat) (l : List ((Int × Int) × (Int × Int) × (Int × Int))) (hok : ∀ q ∈ flW l, OkQ q) (hn : l.length ≤ 1000) : Ctr Tryz.prog 25 [.slice ad l.length c] [Row ad (cellsOf encW l)] (PostMade (flW l) l.length) := by
  refine fn_intro Tryz.func25 rfl Tryz.ntmps25 (Nat.le_of_ble_eq_true rfl) ?_
  intro S w0 a hS h
  rw [cells_flW l] at h
  have hfl := flW_len l
  refine wp_seq ?_
  refine wp_region_lit ?_
  refine wpl_plain (op_alloc h Tryz.zeroValue25 (by decide) ?_); clear h; intro b2 a w h
  refine wpList_nil ?_
  change Code.wp _ _ _ _ _
  refine wp_seq ?_
  refine wp_region_lit ?_
  refine wpl_plain (op_alloc h Tryz.zeroValue25 (by decide) ?_); clear h; intro b3 a w h
  refine wpList_nil ?_
  change Code.wp _ _ _ _ _
  refine wp_seq ?_
  refine wp_seq ?_
  refine wp_region_lit ?_
  refine wpl_plain (op_pure h (.assign rfl) (by decide) ?_); clear h; intro a h
  refine wpList_nil ?_
  change Code.wp _ _ _ _ _
  refine wp_block ?_
  refine wp_loop_inv (fun (i : Nat) a w => i ≤ l.length ∧ ∃ (ad1 : Option Addr) (c1 : Nat) (o1 : List (Nat × Obj)) (ad2 : Option Addr) (c2 : Nat) (o2 : List (Nat × Obj)), (GrowO 15 55 (.slice ad1 (lstT (madP (flW l)) i).length c1) (lstT (madP (flW l)) i).length (cellsOf encP (lstT (madP (flW l)) i)) o1 ∧ GrowO 5 42 (.slice ad2 (lstT (madW (flW l)) i).length c2) (lstT (madW (flW l)) i).length (cellsOf encQ (lstT (madW (flW l)) i)) o2) ∧ St 50 S w0 [(0, .slice ad l.length c), (2, .pointer (some ⟨b2, 0, none⟩)), (3, .pointer (some ⟨b3, 0, none⟩)), (4, .int .i64 ((i : Nat) : Int))] (o2 ++ (o1 ++ ((b3, .cells (Value.cells (.agg #[(.slice ad1 (lstT (madP (flW l)) i).length c1), (.slice ad2 (lstT (madW (flW l)) i).length c2)])) 25 (0, 0)) :: ((b2, .cells (Value.cells (.agg #[.slice none 0 0, .slice none 0 0])) 25 (0, 0)) :: [])))) [Row ad (cellsOf encQ2 (flW l))] a w) (fun i => l.length - i) 0 (⟨Nat.zero_le _, none, 0, [], none, 0, [], ⟨GrowO.nil _ _, GrowO.nil _ _⟩, by exact (h).sub (subL ⟨rfl, rfl, rfl, rfl, trivial⟩)⟩) ?_; clear h
  rintro i a w ⟨hi_i, ad1, c1, o1, ad2, c2, o2, ⟨hG1, hG2⟩, h⟩
  refine wp_seq ?_
  refine wp_seq ?_
  refine wp_region_lit ?_
  refine wpl_plain (op_pure h (.move rfl) (by decide) ?_); clear h; intro a h
  refine wpl_plain (op_pure h (.move rfl) (by decide) ?_); clear h; intro a h
  refine wpl_plain (op_pure h (.builtin [_] rfl (len_slice_62 _ _ _)) (by decide) ?_); clear h; intro a h
  refine wpl_plain (op_pure h (.binOp rfl rfl (fun _ => run_lss _ _ _ _ _)) (by decide) ?_); clear h; intro a h
  refine wpList_nil ?_
  change Code.wp _ _ _ _ _
  refine cond_split h rfl (fun hc10 => ?_) (fun hc10 => ?_)
  · skip
    have hlt_i : i < l.length := by have := of_decide_eq_true hc10; omega
    obtain ⟨B_ad, O_ad, rfl⟩ := h.row_addr (ad := ad) (M := cellsOf encQ2 (flW l)) (by first | assumption | (repeat (first | exact List.Mem.head _ | apply List.Mem.tail | apply List.mem_append_right))) (by intro e; have := congrArg List.length e; rw [cellsOf_length (k := 2) (fun _ => rfl)] at this; simp only [List.length_nil, Nat.mul_eq_zero] at this; omega)
    obtain ⟨hq0a, hq0b, hq0c, hq0d⟩ := hok _ (getD_mem (flW l) (i := 3 * i + 0) (d := (0, 0)) (by omega))
    obtain ⟨hq1a, hq1b, hq1c, hq1d⟩ := hok _ (getD_mem (flW l) (i := 3 * i + 1) (d := (0, 0)) (by omega))
    obtain ⟨hq2a, hq2b, hq2c, hq2d⟩ := hok _ (getD_mem (flW l) (i := 3 * i + 2) (d := (0, 0)) (by omega))
    have hg1 := lstT_len (madP (flW l)) i
    have hg2 := lstT_len (madW (flW l)) i
    refine wp_skip ?_
    change Code.wp _ _ _ _ _
    refine wp_seq ?_
    refine wp_block ?_
    refine wp_seq ?_
    refine wp_draws mixed_YtfmbhcnanphckaaGreatDoor h [0, 1, 2, 3, 4, 6, 7, 8, 9, 10, 5, 11, 12, 13, 14, 15] _ (fun _ _ hh => hh) (by kernel_rfl) (floatsOK_of ⟨.inl rfl, .inl rfl, .inl rfl, .inl rfl, .inl rfl, .inl rfl, .inl rfl, .inl rfl, .inl rfl, .inl rfl, .inl rfl, .inl rfl, .inr ⟨5, 42, _, _, _, rfl, rfl, by decide, _, zeroQ⟩, .inr ⟨6, 42, _, _, _, rfl, rfl, by decide, _, zeroQ⟩, .inl rfl, .inl rfl, trivial⟩) ?_; clear h
    refine head_pure rfl (by kernel_rfl) (.move rfl) (by decide) ?_
    refine head_pure rfl (by kernel_rfl) (.move rfl) (by decide) ?_
    refine head_pure rfl (by kernel_rfl) (.indexAddr rfl rfl (ix_62 _ _ _ _ _ (by omega))) (by decide) ?_
    refine head_pure rfl (by kernel_rfl) (Pure1.cast (v' := .pointer (some ⟨B_ad, O_ad + (3 * i + 0) * 2, none⟩)) (.fieldAddr rfl (fa_68_0 _ _)) (by rw [show O_ad + i * 6 + 0 = O_ad + (3 * i + 0) * 2 by omega])) (by decide) ?_
    refine head_loadRow rfl (by kernel_rfl) rfl (by first | assumption | (repeat (first | exact List.Mem.head _ | apply List.Mem.tail | apply List.mem_append_right))) (cells_lt (k := 2) (by decide) (fun _ => rfl) (flW l) (3 * i + 0) (by omega)) Tryz.isAgg66 Tryz.sizeOf66 (read_cells (k := 2) (fun _ => rfl) ((fun _ => rfl)) (flW l) (0, 0) (3 * i + 0) (by omega)) (.inl rfl) (by decide) ?_
    refine head_pure rfl (by kernel_rfl) (.move rfl) (by decide) ?_
    refine head_pure rfl (by kernel_rfl) (.move rfl) (by decide) ?_
    refine head_pure rfl (by kernel_rfl) (.indexAddr rfl rfl (ix_62 _ _ _ _ _ (by omega))) (by decide) ?_
    refine head_pure rfl (by kernel_rfl) (Pure1.cast (v' := .pointer (some ⟨B_ad, O_ad + (3 * i + 1) * 2, none⟩)) (.fieldAddr rfl (fa_68_1 _ _)) (by rw [show O_ad + i * 6 + 2 = O_ad + (3 * i + 1) * 2 by omega])) (by decide) ?_
    refine head_loadRow rfl (by kernel_rfl) rfl (by first | assumption | (repeat (first | exact List.Mem.head _ | apply List.Mem.tail | apply List.mem_append_right))) (cells_lt (k := 2) (by decide) (fun _ => rfl) (flW l) (3 * i + 1) (by omega)) Tryz.isAgg66 Tryz.sizeOf66 (read_cells (k := 2) (fun _ => rfl) ((fun _ => rfl)) (flW l) (0, 0) (3 * i + 1) (by omega)) (.inl rfl) (by decide) ?_
    refine head_callV rfl (by kernel_rfl) (vs := [_]) rfl Tryz.call31 (C_qOf (((flW l).getD (3 * i + 0) (0, 0)).1) (((flW l).getD (3 * i + 0) (0, 0)).2) (by omega) (by omega) (by omega) (by omega)) (by decide) ?_
    have hl18 := lenQ_qv (((flW l).getD (3 * i + 0) (0, 0)).1) (((flW l).getD (3 * i + 0) (0, 0)).2) (by omega) (by omega) (by omega) (by omega)
    refine head_callV rfl (by kernel_rfl) (vs := [_]) rfl Tryz.call31 (C_qOf (((flW l).getD (3 * i + 1) (0, 0)).1) (((flW l).getD (3 * i + 1) (0, 0)).2) (by omega) (by omega) (by omega) (by omega)) (by decide) ?_
    have hl24 := lenQ_qv (((flW l).getD (3 * i + 1) (0, 0)).1) (((flW l).getD (3 * i + 1) (0, 0)).2) (by omega) (by omega) (by omega) (by omega)
    refine head_float rfl (by kernel_rfl) zeroQ (by decide) ?_; intro b5
    refine head_float rfl (by kernel_rfl) zeroQ (by decide) ?_; intro b6
    refine head_store rfl (by kernel_rfl) rfl rfl (st_5_0_5 _ _ _ _ _ _ _ _ _ _) (by repeat (first | exact Upd.head | apply Upd.tail | apply Upd.append)) Tryz.sizeOf42 rfl (Nat.le_of_ble_eq_true rfl) rfl ?_
    refine head_store rfl (by kernel_rfl) rfl rfl (st_5_0_5 _ _ _ _ _ _ _ _ _ _) (by repeat (first | exact Upd.head | apply Upd.tail | apply Upd.append)) Tryz.sizeOf42 rfl (Nat.le_of_ble_eq_true rfl) rfl ?_
    refine head_nil ?_; intro a w h
    change Code.wp _ _ _ _ _
    refine wp_seq ?_
    refine wp_draws mixed_YtfmbhcnanphckaaGreatDoor h [0, 1, 2, 3, 5, 7, 4, 6, 8, 9, 10, 11, 12, 13] _ (fun _ _ hh => hh) (by kernel_rfl) (floatsOK_none (by kernel_rfl)) ?_; clear h
    refine head_pure rfl (by kernel_rfl) (.fieldAddr rfl (fa_25_0 _ _)) (by decide) ?_
    refine head_load rfl (by kernel_rfl) rfl (by repeat (first | exact List.Mem.head _ | apply List.Mem.tail | apply List.mem_append_right)) Tryz.isAgg22 Tryz.sizeOf22 (rs_2_0 _ _) (by decide) ?_
    refine head_load rfl (by kernel_rfl) rfl (by repeat (first | exact List.Mem.head _ | apply List.Mem.tail | apply List.mem_append_right)) Tryz.isAgg42 Tryz.sizeOf42 (rd_5_0_5 _ _ _ _ _) (by decide) ?_
    refine head_load rfl (by kernel_rfl) rfl (by repeat (first | exact List.Mem.head _ | apply List.Mem.tail | apply List.mem_append_right)) Tryz.isAgg42 Tryz.sizeOf42 (rd_5_0_5 _ _ _ _ _) (by decide) ?_
    refine head_load rfl (by kernel_rfl) rfl (by repeat (first | exact List.Mem.head _ | apply List.Mem.tail | apply List.mem_append_right)) Tryz.isAgg42 Tryz.sizeOf42 (rd_5_0_5 _ _ _ _ _) (by decide) ?_
    refine head_load rfl (by kernel_rfl) rfl (by repeat (first | exact List.Mem.head _ | apply List.Mem.tail | apply List.mem_append_right)) Tryz.isAgg42 Tryz.sizeOf42 (rd_5_0_5 _ _ _ _ _) (by decide) ?_
    refine head_callV rfl (by kernel_rfl) (vs := [_]) rfl Tryz.call20 (C_QInt _ (by omega) (by omega)) (by decide) ?_
    have hl29 := lenQ_int (1) (by omega) (by omega)
    refine head_callV rfl (by kernel_rfl) (vs := [_, _]) rfl Tryz.call66 (C_QSub _ _ (by omega) (by omega)) (by decide) ?_
    have hl31 := lenQ_sub (((1 : Int) : Rat)) (qv (((flW l).getD (3 * i + 0) (0, 0)).1) (((flW l).getD (3 * i + 0) (0, 0)).2))
    refine head_callV rfl (by kernel_rfl) (vs := [_, _]) rfl Tryz.call66 (C_QSub _ _ (by omega) (by omega)) (by decide) ?_
    have hl33 := lenQ_sub ((((1 : Int) : Rat)) - (qv (((flW l).getD (3 * i + 0) (0, 0)).1) (((flW l).getD (3 * i + 0) (0, 0)).2))) (qv (((flW l).getD (3 * i + 1) (0, 0)).1) (((flW l).getD (3 * i + 1) (0, 0)).2))
    refine head_pure rfl (by kernel_rfl) (.build [(_, _), (_, _), (_, _)] rfl (bd_55_0_1_2 _ _ _ _ _ _ _ _ _ _ _ _ _ _ _)) (by decide) ?_
    refine head_buildSlice rfl (by kernel_rfl) [(_, _)] rfl (bs_22_1_0 _ _ _ _ _ _ _ _ _ _ _ _ _ _ _) (by decide) ?_; intro b35
    refine head_appendO (σr := ((b6, .cells (Value.cells (encQ (qv (((flW l).getD (3 * i + 1) (0, 0)).1) (((flW l).getD (3 * i + 1) (0, 0)).2)))) 42 (0, 0)) :: ((b5, .cells (Value.cells (encQ (qv (((flW l).getD (3 * i + 0) (0, 0)).1) (((flW l).getD (3 * i + 0) (0, 0)).2)))) 42 (0, 0)) :: (o2 ++ ((b3, .cells (Value.cells (.agg #[(.slice ad1 (lstT (madP (flW l)) i).length c1), (.slice ad2 (lstT (madW (flW l)) i).length c2)])) 25 (0, 0)) :: ((b2, .cells (Value.cells (.agg #[.slice none 0 0, .slice none 0 0])) 25 (0, 0)) :: [])))))) rfl (by kernel_rfl) rfl rfl (List.Perm.trans (List.Perm.refl _) (List.Perm.cons _ (pm_ca (pm_ca (pm_aa (List.Perm.refl _)))))) hG1 Tryz.runUnderlying22 Tryz.runUnderlying22 Tryz.typeInfo55 Tryz.sizeOf55 zeroP rfl (by decide) (by decide) rfl rfl (by decide) (by show 168 * (2 * ((lstT (madP (flW l)) i).length + 1) + 192) ≤ 281474976710656; omega) (by decide) ?_
    intro v36 o36 hG36
    obtain ⟨ad36, c36, rfl⟩ := hG36.is
    have hLn36 : (lstT (madP (flW l)) i).length + 1 = ((lstT (madP (flW l)) i) ++ [(qv (((flW l).getD (3 * i + 0) (0, 0)).1) (((flW l).getD (3 * i + 0) (0, 0)).2), qv (((flW l).getD (3 * i + 1) (0, 0)).1) (((flW l).getD (3 * i + 1) (0, 0)).2), ((((1 : Int) : Rat)) - (qv (((flW l).getD (3 * i + 0) (0, 0)).1) (((flW l).getD (3 * i + 0) (0, 0)).2))) - (qv (((flW l).getD (3 * i + 1) (0, 0)).1) (((flW l).getD (3 * i + 1) (0, 0)).2)))]).length := by simp only [List.length_append, List.length_cons, List.length_nil, Nat.zero_add]
    rw [hLn36]; rw [hLn36] at hG36
    replace hG36 : GrowO 15 55 (.slice ad36 ((lstT (madP (flW l)) i) ++ [(qv (((flW l).getD (3 * i + 0) (0, 0)).1) (((flW l).getD (3 * i + 0) (0, 0)).2), qv (((flW l).getD (3 * i + 1) (0, 0)).1) (((flW l).getD (3 * i + 1) (0, 0)).2), ((((1 : Int) : Rat)) - (qv (((flW l).getD (3 * i + 0) (0, 0)).1) (((flW l).getD (3 * i + 0) (0, 0)).2))) - (qv (((flW l).getD (3 * i + 1) (0, 0)).1) (((flW l).getD (3 * i + 1) (0, 0)).2)))]).length c36) ((lstT (madP (flW l)) i) ++ [(qv (((flW l).getD (3 * i + 0) (0, 0)).1) (((flW l).getD (3 * i + 0) (0, 0)).2), qv (((flW l).getD (3 * i + 1) (0, 0)).1) (((flW l).getD (3 * i + 1) (0, 0)).2), ((((1 : Int) : Rat)) - (qv (((flW l).getD (3 * i + 0) (0, 0)).1) (((flW l).getD (3 * i + 0) (0, 0)).2))) - (qv (((flW l).getD (3 * i + 1) (0, 0)).1) (((flW l).getD (3 * i + 1) (0, 0)).2)))]).length (cellsOf encP ((lstT (madP (flW l)) i) ++ [(qv (((flW l).getD (3 * i + 0) (0, 0)).1) (((flW l).getD (3 * i + 0) (0, 0)).2), qv (((flW l).getD (3 * i + 1) (0, 0)).1) (((flW l).getD (3 * i + 1) (0, 0)).2), ((((1 : Int) : Rat)) - (qv (((flW l).getD (3 * i + 0) (0, 0)).1) (((flW l).getD (3 * i + 0) (0, 0)).2))) - (qv (((flW l).getD (3 * i + 1) (0, 0)).1) (((flW l).getD (3 * i + 1) (0, 0)).2)))])) o36 := by rw [cellsOf_append, cellsOf_one]; exact hG36
    refine head_pure rfl (by kernel_rfl) (.fieldAddr rfl (fa_25_0 _ _)) (by decide) ?_
    refine head_store rfl (by kernel_rfl) rfl rfl (st_2_0_1 _ _ _) (by repeat (first | exact Upd.head | apply Upd.tail | apply Upd.append)) Tryz.sizeOf22 rfl (Nat.le_of_ble_eq_true rfl) (by show ((flat ((.slice ad36 ((lstT (madP (flW l)) i) ++ [(qv (((flW l).getD (3 * i + 0) (0, 0)).1) (((flW l).getD (3 * i + 0) (0, 0)).2), qv (((flW l).getD (3 * i + 1) (0, 0)).1) (((flW l).getD (3 * i + 1) (0, 0)).2), ((((1 : Int) : Rat)) - (qv (((flW l).getD (3 * i + 0) (0, 0)).1) (((flW l).getD (3 * i + 0) (0, 0)).2))) - (qv (((flW l).getD (3 * i + 1) (0, 0)).1) (((flW l).getD (3 * i + 1) (0, 0)).2)))]).length c36)) && true)) = true; simp only [GrowO.flat (hG36)]; rfl) ?_
    refine head_nil ?_; intro a w h
    change Code.wp _ _ _ _ _
    refine wp_draws mixed_YtfmbhcnanphckaaGreatDoor h [0, 1, 2, 3, 4, 5, 6, 7, 8, 9, 10, 11] _ (fun _ _ hh => hh) (by kernel_rfl) (floatsOK_none (by kernel_rfl)) ?_; clear h
    refine head_pure rfl (by kernel_rfl) (.fieldAddr rfl (fa_25_1 _ _)) (by decide) ?_
    refine head_load rfl (by kernel_rfl) rfl (by repeat (first | exact List.Mem.head _ | apply List.Mem.tail | apply List.mem_append_right)) Tryz.isAgg23 Tryz.sizeOf23 (rs_2_1 _ _) (by decide) ?_
    refine head_pure rfl (by kernel_rfl) (.move rfl) (by decide) ?_
    refine head_pure rfl (by kernel_rfl) (.move rfl) (by decide) ?_
    refine head_pure rfl (by kernel_rfl) (.indexAddr rfl rfl (ix_62 _ _ _ _ _ (by omega))) (by decide) ?_
    refine head_pure rfl (by kernel_rfl) (Pure1.cast (v' := .pointer (some ⟨B_ad, O_ad + (3 * i + 2) * 2, none⟩)) (.fieldAddr rfl (fa_68_2 _ _)) (by rw [show O_ad + i * 6 + 4 = O_ad + (3 * i + 2) * 2 by omega])) (by decide) ?_
    refine head_loadRow rfl (by kernel_rfl) rfl (by first | assumption | (repeat (first | exact List.Mem.head _ | apply List.Mem.tail | apply List.mem_append_right))) (cells_lt (k := 2) (by decide) (fun _ => rfl) (flW l) (3 * i + 2) (by omega)) Tryz.isAgg66 Tryz.sizeOf66 (read_cells (k := 2) (fun _ => rfl) ((fun _ => rfl)) (flW l) (0, 0) (3 * i + 2) (by omega)) (.inl rfl) (by decide) ?_
    refine head_callV rfl (by kernel_rfl) (vs := [_]) rfl Tryz.call31 (C_qOf (((flW l).getD (3 * i + 2) (0, 0)).1) (((flW l).getD (3 * i + 2) (0, 0)).2) (by omega) (by omega) (by omega) (by omega)) (by decide) ?_
    have hl45 := lenQ_qv (((flW l).getD (3 * i + 2) (0, 0)).1) (((flW l).getD (3 * i + 2) (0, 0)).2) (by omega) (by omega) (by omega) (by omega)
    refine head_buildSlice rfl (by kernel_rfl) [(_, _)] rfl (bs_23_1_0 _ _ _ _ _) (by decide) ?_; intro b46
    refine head_appendO (σr := (o36 ++ ((b6, .cells (Value.cells (encQ (qv (((flW l).getD (3 * i + 1) (0, 0)).1) (((flW l).getD (3 * i + 1) (0, 0)).2)))) 42 (0, 0)) :: ((b5, .cells (Value.cells (encQ (qv (((flW l).getD (3 * i + 0) (0, 0)).1) (((flW l).getD (3 * i + 0) (0, 0)).2)))) 42 (0, 0)) :: ((b3, .cells (Value.cells (.agg #[(.slice ad36 ((lstT (madP (flW l)) i) ++ [(qv (((flW l).getD (3 * i + 0) (0, 0)).1) (((flW l).getD (3 * i + 0) (0, 0)).2), qv (((flW l).getD (3 * i + 1) (0, 0)).1) (((flW l).getD (3 * i + 1) (0, 0)).2), ((((1 : Int) : Rat)) - (qv (((flW l).getD (3 * i + 0) (0, 0)).1) (((flW l).getD (3 * i + 0) (0, 0)).2))) - (qv (((flW l).getD (3 * i + 1) (0, 0)).1) (((flW l).getD (3 * i + 1) (0, 0)).2)))]).length c36), (.slice ad2 (lstT (madW (flW l)) i).length c2)])) 25 (0, 0)) :: ((b2, .cells (Value.cells (.agg #[.slice none 0 0, .slice none 0 0])) 25 (0, 0)) :: [])))))) rfl (by kernel_rfl) rfl rfl (List.Perm.trans (List.Perm.refl _) (List.Perm.cons _ (pm_aa (pm_ca (pm_ca (List.Perm.refl _)))))) hG2 Tryz.runUnderlying23 Tryz.runUnderlying23 Tryz.typeInfo42 Tryz.sizeOf42 zeroQ rfl (by decide) (by decide) rfl rfl (by decide) (by show 56 * (2 * ((lstT (madW (flW l)) i).length + 1) + 192) ≤ 281474976710656; omega) (by decide) ?_
    intro v47 o47 hG47
    obtain ⟨ad47, c47, rfl⟩ := hG47.is
    have hLn47 : (lstT (madW (flW l)) i).length + 1 = ((lstT (madW (flW l)) i) ++ [qv (((flW l).getD (3 * i + 2) (0, 0)).1) (((flW l).getD (3 * i + 2) (0, 0)).2)]).length := by simp only [List.length_append, List.length_cons, List.length_nil, Nat.zero_add]
    rw [hLn47]; rw [hLn47] at hG47
    replace hG47 : GrowO 5 42 (.slice ad47 ((lstT (madW (flW l)) i) ++ [qv (((flW l).getD (3 * i + 2) (0, 0)).1) (((flW l).getD (3 * i + 2) (0, 0)).2)]).length c47) ((lstT (madW (flW l)) i) ++ [qv (((flW l).getD (3 * i + 2) (0, 0)).1) (((flW l).getD (3 * i + 2) (0, 0)).2)]).length (cellsOf encQ ((lstT (madW (flW l)) i) ++ [qv (((flW l).getD (3 * i + 2) (0, 0)).1) (((flW l).getD (3 * i + 2) (0, 0)).2)])) o47 := by rw [cellsOf_append, cellsOf_one]; exact hG47
    refine head_pure rfl (by kernel_rfl) (.fieldAddr rfl (fa_25_1 _ _)) (by decide) ?_
    refine head_store rfl (by kernel_rfl) rfl rfl (st_2_1_1 _ _ _) (by repeat (first | exact Upd.head | apply Upd.tail | apply Upd.append)) Tryz.sizeOf23 rfl (Nat.le_of_ble_eq_true rfl) (by show ((flat ((.slice ad47 ((lstT (madW (flW l)) i) ++ [qv (((flW l).getD (3 * i + 2) (0, 0)).1) (((flW l).getD (3 * i + 2) (0, 0)).2)]).length c47)) && true)) = true; simp only [GrowO.flat (hG47)]; rfl) ?_
    refine head_nil ?_; intro a w h
    change Code.wp _ _ _ _ _
    refine wp_region_lit ?_
    refine wpl_plain (op_pure h (.move rfl) (by decide) ?_); clear h; intro a h
    refine wpl_plain (op_pure h (Pure1.cast (v' := (.int .i64 ((i + 1 : Nat) : Int))) (.binOp rfl rfl (fun _ => run_addb _ _ _ _ _ (wrap_i64 _ (by omega) (by omega)))) (by show Value.int _ _ = Value.int _ _; congr 1)) (by decide) ?_); clear h; intro a h
    refine wpl_plain (op_pure h (.assign rfl) (by decide) ?_); clear h; intro a h
    refine wpList_nil ?_
    exact ⟨i + 1, ⟨by omega, ad36, c36, o36, ad47, c47, o47, ⟨hG36, hG47⟩, by exact (((h.perm (List.Perm.trans (pm_ac (pm_ac (List.Perm.refl _))) (List.Perm.cons _ (List.Perm.trans (pm_ac (pm_ac (List.Perm.refl _))) (List.Perm.cons _ (List.Perm.refl _))))).symm).drop (by repeat (first | exact List.Sublist.refl _ | apply List.Sublist.cons))).factsSub (by simp)).sub (subL ⟨rfl, rfl, rfl, rfl, trivial⟩)⟩, by omega⟩
  · skip
    have heq_i : l.length = i := by have := of_decide_eq_false hc10; omega
    subst heq_i
    refine wp_exit ?_
    change Code.wp _ _ _ _ _
    refine wp_seq ?_
    refine wp_region_lit ?_
    refine wpl_plain (op_load h rfl (by repeat (first | exact List.Mem.head _ | apply List.Mem.tail | apply List.mem_append_right)) Tryz.isAgg25 Tryz.sizeOf25 (rd_2_0_2 _ _) (by decide) ?_); clear h; intro a h
    refine wpl_plain (op_store h rfl rfl (st_2_0_2 _ _ _ _) (by repeat (first | exact Upd.head | apply Upd.tail | apply Upd.append)) Tryz.sizeOf25 rfl (Nat.le_of_ble_eq_true rfl) (by show ((flat ((.slice ad1 (lstT (madP (flW l)) l.length).length c1)) && (flat ((.slice ad2 (lstT (madW (flW l)) l.length).length c2)) && true))) = true; simp only [GrowO.flat (hG1), GrowO.flat (hG2)]; rfl) ?_); clear h; intro a w h
    refine wpList_nil ?_
    change Code.wp _ _ _ _ _
    refine wp_ret ?_
    replace h := (St.shareO' (St.shareO' (h.perm (pm_aa (List.Perm.refl _)).symm) hS hG1) hS hG2)
    refine ret_of (Ψ := [Row ad2 (cellsOf encQ (lstT (madW (flW l)) l.length)), Row ad1 (cellsOf encP (lstT (madP (flW l)) l.length))]) h (results1 h rfl (.cell rfl (by repeat (first | exact List.Mem.head _ | apply List.Mem.tail | apply List.mem_append_right)) Tryz.isAgg25 Tryz.sizeOf25 (rd_2_0_2 _ _))) ⟨ad1, c1, ad2, c2, rfl, rfl⟩ (by simp)

theorem madP_sum (T : List (Int × Int)) (i : Nat) : sum3 (madP T i) = ((1 : Int) : Rat) := by
  unfold sum3 madP
  simp only [List.foldl_cons, List.foldl_nil]
  generalize qa T (3 * i + 0) = a
  generalize qa T (3 * i + 1) = b
  rw [Rat.zero_add, Rat.sub_eq_add_neg (_ - a), Rat.sub_eq_add_neg _ a, Rat.add_assoc ((1 : Int) : Rat), Rat.add_comm ((1 : Int) : Rat), ← Rat.add_assoc, ← Rat.add_assoc, Rat.add_assoc a b, Rat.add_comm b, ← Rat.add_assoc a (-a) b, Rat.add_neg_cancel, Rat.zero_add, Rat.add_neg_cancel, Rat.zero_add]
theorem lstT_mem {α : Type} {f : Nat → α} {x : α} : ∀ {i}, x ∈ lstT f i → ∃ j, j < i ∧ x = f j
  | 0, h => by cases h
  | i + 1, h => by
    rw [lstT, List.mem_append, List.mem_singleton] at h
    rcases h with h | h
    · obtain ⟨j, h1, h2⟩ := lstT_mem h; exact ⟨j, by omega, h2⟩
    · exact ⟨i, by omega, h⟩
theorem mad_check (T : List (Int × Int)) (n : Nat) : checkI (lstT (madP T) n) (lstT (madW T) n) = 0 := by
  unfold checkI; rw [lstT_len, lstT_len, if_pos rfl, if_pos]
  intro p hp
  obtain ⟨j, _, rfl⟩ := lstT_mem hp
  exact madP_sum T j
theorem lenQ_qa {T : List (Int × Int)} (hok : ∀ q ∈ T, OkQ q) {j : Nat} (h : j < T.length) : lenQ (qa T j) ≤ 4 := by
  obtain ⟨h0, h1, h2, h3⟩ := hok _ (getD_mem T (d := (0, 0)) h)
  exact lenQ_qv _ _ h0 h1 h2 h3
theorem lenQ_madP {T : List (Int × Int)} (hok : ∀ q ∈ T, OkQ q) {n : Nat} (hn : 3 * n ≤ T.length) : ∀ p ∈ lstT (madP T) n, lenQ p.1 ≤ 1000 ∧ lenQ p.2.1 ≤ 1000 ∧ lenQ p.2.2 ≤ 1000 := by
  intro p hp
  obtain ⟨j, hj, rfl⟩ := lstT_mem hp
  have h1 := lenQ_qa hok (j := 3 * j + 0) (by omega)
  have h2 := lenQ_qa hok (j := 3 * j + 1) (by omega)
  have h3 := lenQ_one
  have h4 := lenQ_sub ((1 : Int) : Rat) (qa T (3 * j + 0))
  have h5 := lenQ_sub (((1 : Int) : Rat) - qa T (3 * j + 0)) (qa T (3 * j + 1))
  rw [one_int] at *
  unfold madP
  simp only
  rw [one_int]
  omega
theorem lenQ_madW {T : List (Int × Int)} (hok : ∀ q ∈ T, OkQ q) {n : Nat} (hn : 3 * n ≤ T.length) : ∀ x ∈ lstT (madW T) n, lenQ x ≤ 1000 := by
  intro p hp
  obtain ⟨j, hj, rfl⟩ := lstT_mem hp
  have h1 := lenQ_qa hok (j := 3 * j + 2) (by omega)
  unfold madW; omega
/-- What is known of the reference's lists after i points. -/
structure RefL (T : List (Int × Int)) (i : Nat) (P : List (FT × FT × FT)) (W : List FT) : Prop where
  hP : psQ P = lstT (madP T) i
  hW : W.map FT.x = lstT (madW T) i
theorem RefL.lenP {T : List (Int × Int)} {i : Nat} {P : List (FT × FT × FT)} {W : List FT} (h : RefL T i P W) : P.length = i := by have := congrArg List.length h.hP; rwa [psQ, List.length_map, lstT_len] at this
theorem RefL.lenW {T : List (Int × Int)} {i : Nat} {P : List (FT × FT × FT)} {W : List FT} (h : RefL T i P W) : W.length = i := by have := congrArg List.length h.hW; rwa [List.length_map, lstT_len] at this
theorem RefL.add {T : List (Int × Int)} {i : Nat} {P : List (FT × FT × FT)} {W : List FT} (h : RefL T i P W) {p : FT × FT × FT} {e : FT} (h1 : (p.1.x, p.2.1.x, p.2.2.x) = madP T i) (h2 : e.x = madW T i) : RefL T (i + 1) (P ++ [p]) (W ++ [e]) :=
  ⟨by rw [psQ, List.map_append, ← psQ, h.hP, lstT, ← h1]; rfl, by rw [List.map_append, h.hW, lstT, ← h2]; rfl⟩
theorem AllF.nil (X : Nat → Prop) (w : World) : (AllF []).p X w := fun e he => by cases he
theorem AllF.snoc {l : List FT} {e : FT} {X : Nat → Prop} {w : World} (h : (AllF l).p X w) (h1 : (Row e.a1 (List.map encn (dg e.x.num.natAbs))).p X w) (h2 : (Row e.a2 (List.map encn (dg (e.x.den - 1)))).p X w) : (AllF (l ++ [e])).p X w := by
  intro f hf
  rcases List.mem_append.1 hf with hf | hf
  · exact h f hf
  · rw [List.mem_singleton] at hf; subst hf; exact ⟨h1, h2⟩
theorem flF_snoc (l : List (FT × FT × FT)) (p : FT × FT × FT) : flF (l ++ [p]) = ((flF l ++ [p.1]) ++ [p.2.1]) ++ [p.2.2] := by
  unfold flF; rw [List.flatMap_append]; simp
theorem flF_len_le {T : List (Int × Int)} {n : Nat} (hok : ∀ q ∈ T, OkQ q) (hn : 3 * n ≤ T.length) {P : List (FT × FT × FT)} (h : psQ P = lstT (madP T) n) : ∀ e ∈ flF P, lenQ e.x ≤ 1000 := by
  intro e he
  obtain ⟨p, hp, he⟩ := List.mem_flatMap.1 he
  have h1 : (p.1.x, p.2.1.x, p.2.2.x) ∈ lstT (madP T) n := by rw [← h]; exact List.mem_map_of_mem (f := fun p : FT × FT × FT => (p.1.x, p.2.1.x, p.2.2.x)) hp
  obtain ⟨a, b, c⟩ := lenQ_madP hok hn _ h1
  simp only [List.mem_cons, List.not_mem_nil, or_false] at he
  rcases he with rfl | rfl | rfl <;> assumption
theorem wF_len_le {T : List (Int × Int)} {n : Nat} (hok : ∀ q ∈ T, OkQ q) (hn : 3 * n ≤ T.length) {W : List FT} (h : W.map FT.x = lstT (madW T) n) : ∀ e ∈ W, lenQ e.x ≤ 1000 := by
  intro e he
  exact lenQ_madW hok hn _ (by rw [← h]; exact List.mem_map_of_mem he)

theorem C_RulesDegree (ad : Option Addr) (c : Nat) (l : List ((Int × Int) × (Int × Int) × (Int × Int))) (hok : ∀ q ∈ flW l, OkQ q) (hn : l.length ≤ 9223372036854775807) : CtrW Tryz.prog 5 [.slice ad l.length c] [Row ad (cellsOf encW l)] (.bool true) := by
  refine fn_intro Tryz.func5 rfl Tryz.ntmps5 (Nat.le_of_ble_eq_true rfl) ?_
  intro S w0 a hS h
  rw [cells_flW l] at h
  have hfl := flW_len l
  refine wp_seq ?_
  refine wp_region_lit ?_
  refine wpl_plain (op_pure h (.assign rfl) (by decide) ?_); clear h; intro a h
  refine wpList_nil ?_
  change Code.wp _ _ _ _ _
  refine wp_seq ?_
  refine wp_seq ?_
  refine wp_region_lit ?_
  refine wpl_plain (op_pure h (.move rfl) (by decide) ?_); clear h; intro a h
  refine wpl_plain (op_pure h (.builtin [_] rfl (len_slice_62 _ _ _)) (by decide) ?_); clear h; intro a h
  refine wpl_plain (op_pure h (.binOp rfl rfl (fun _ => run_gtr _ _ _ _ _)) (by decide) ?_); clear h; intro a h
  refine wpList_nil ?_
  change Code.wp _ _ _ _ _
  refine cond_split h rfl (fun hc11 => ?_) (fun hc11 => ?_)
  · skip
    refine wp_seq ?_
    refine wp_region_lit ?_
    refine wpl_plain (op_callV h (vs := []) rfl Tryz.call13 (C_works) (by decide) ?_); clear h; intro a w h
    refine wpl_plain (op_pure h (.assign rfl) (by decide) ?_); clear h; intro a h
    refine wpList_nil ?_
    change Code.wp _ _ _ _ _
    refine wp_ret ?_
    refine retV h (results1 h rfl (.tmp rfl)) ?_
    rfl
  · skip
    have hn7 : l.length ≤ 7 := by have := of_decide_eq_false hc11; omega
    refine wp_skip ?_
    change Code.wp _ _ _ _ _
    refine wp_seq ?_
    refine wp_region_lit ?_
    refine wpl_plain (op_pure h (.assign rfl) (by decide) ?_); clear h; intro a h
    refine wpList_nil ?_
    change Code.wp _ _ _ _ _
    refine wp_seq ?_
    refine wp_region_lit ?_
    refine wpl_plain (op_pure h (.assign rfl) (by decide) ?_); clear h; intro a h
    refine wpList_nil ?_
    change Code.wp _ _ _ _ _
    refine wp_seq ?_
    refine wp_seq ?_
    refine wp_region_lit ?_
    refine wpl_plain (op_pure h (.assign rfl) (by decide) ?_); clear h; intro a h
    refine wpList_nil ?_
    change Code.wp _ _ _ _ _
    refine wp_block ?_
    replace h := h.derive (R := AllF (flF [])) (fun X hX => AllF.nil X _)
    replace h := h.derive (R := AllF []) (fun X hX => AllF.nil X _)
    refine wp_loop_inv (fun (i : Nat) a w => i ≤ l.length ∧ ∃ (P : List (FT × FT × FT)) (W : List FT) (ad1 : Option Addr) (c1 : Nat) (o1 : List (Nat × Obj)) (ad2 : Option Addr) (c2 : Nat) (o2 : List (Nat × Obj)), (RefL (flW l) i P W ∧ GrowO 9 72 (.slice ad1 P.length c1) P.length (cellsOf encFP P) o1 ∧ GrowO 3 50 (.slice ad2 W.length c2) W.length (cellsOf encF W) o2) ∧ St 67 S w0 [(0, .slice ad l.length c), (2, .bool false), (3, (.slice ad1 P.length c1)), (4, (.slice ad2 W.length c2)), (5, .int .i64 ((i : Nat) : Int)), (9, .slice ad l.length c), (10, .int .i64 ((l.length : Nat) : Int)), (11, .bool (decide (((l.length : Nat) : Int) > 7)))] (o2 ++ (o1 ++ [])) [AllF W, AllF (flF P), Row ad (cellsOf encQ2 (flW l))] a w) (fun i => l.length - i) 0 (⟨Nat.zero_le _, [], [], none, 0, [], none, 0, [], ⟨⟨rfl, rfl⟩, GrowO.nil _ _, GrowO.nil _ _⟩, by exact (h.factsSub (by simp)).sub (subL ⟨rfl, rfl, rfl, rfl, rfl, rfl, rfl, rfl, trivial⟩)⟩) ?_; clear h
    rintro i a w ⟨hi_i, P, W, ad1, c1, o1, ad2, c2, o2, ⟨hR, hG1, hG2⟩, h⟩
    refine wp_seq ?_
    refine wp_seq ?_
    refine wp_region_lit ?_
    refine wpl_plain (op_pure h (.move rfl) (by decide) ?_); clear h; intro a h
    refine wpl_plain (op_pure h (.move rfl) (by decide) ?_); clear h; intro a h
    refine wpl_plain (op_pure h (.builtin [_] rfl (len_slice_62 _ _ _)) (by decide) ?_); clear h; intro a h
    refine wpl_plain (op_pure h (.binOp rfl rfl (fun _ => run_lss _ _ _ _ _)) (by decide) ?_); clear h; intro a h
    refine wpList_nil ?_
    change Code.wp _ _ _ _ _
    refine cond_split h rfl (fun hc16 => ?_) (fun hc16 => ?_)
    · skip
      have hlt_i : i < l.length := by have := of_decide_eq_true hc16; omega
      obtain ⟨B_ad, O_ad, rfl⟩ := h.row_addr (ad := ad) (M := cellsOf encQ2 (flW l)) (by first | assumption | (repeat (first | exact List.Mem.head _ | apply List.Mem.tail | apply List.mem_append_right))) (by intro e; have := congrArg List.length e; rw [cellsOf_length (k := 2) (fun _ => rfl)] at this; simp only [List.length_nil, Nat.mul_eq_zero] at this; omega)
      obtain ⟨hq0a, hq0b, hq0c, hq0d⟩ := hok _ (getD_mem (flW l) (i := 3 * i + 0) (d := (0, 0)) (by omega))
      obtain ⟨hq1a, hq1b, hq1c, hq1d⟩ := hok _ (getD_mem (flW l) (i := 3 * i + 1) (d := (0, 0)) (by omega))
      obtain ⟨hq2a, hq2b, hq2c, hq2d⟩ := hok _ (getD_mem (flW l) (i := 3 * i + 2) (d := (0, 0)) (by omega))
      have hlp := hR.lenP
      have hlw := hR.lenW
      refine wp_skip ?_
      change Code.wp _ _ _ _ _
      refine wp_seq ?_
      refine wp_block ?_
      refine wp_seq ?_
      refine wp_draws mixed_YtfmbhcnanphckaaGreatDoor h [0, 1, 2, 3, 4, 6, 7, 8, 9, 10, 5, 11, 12, 13, 14, 15] _ (fun _ _ hh => hh) (by kernel_rfl) (floatsOK_of ⟨.inl rfl, .inl rfl, .inl rfl, .inl rfl, .inl rfl, .inl rfl, .inl rfl, .inl rfl, .inl rfl, .inl rfl, .inl rfl, .inl rfl, .inr ⟨6, 50, _, _, _, rfl, rfl, by decide, _, zeroF⟩, .inr ⟨7, 50, _, _, _, rfl, rfl, by decide, _, zeroF⟩, .inl rfl, .inl rfl, trivial⟩) ?_; clear h
      refine head_pure rfl (by kernel_rfl) (.move rfl) (by decide) ?_
      refine head_pure rfl (by kernel_rfl) (.move rfl) (by decide) ?_
      refine head_pure rfl (by kernel_rfl) (.indexAddr rfl rfl (ix_62 _ _ _ _ _ (by omega))) (by decide) ?_
      refine head_pure rfl (by kernel_rfl) (Pure1.cast (v' := .pointer (some ⟨B_ad, O_ad + (3 * i + 0) * 2, none⟩)) (.fieldAddr rfl (fa_68_0 _ _)) (by rw [show O_ad + i * 6 + 0 = O_ad + (3 * i + 0) * 2 by omega])) (by decide) ?_
      refine head_loadRow rfl (by kernel_rfl) rfl (by first | assumption | (repeat (first | exact List.Mem.head _ | apply List.Mem.tail | apply List.mem_append_right))) (cells_lt (k := 2) (by decide) (fun _ => rfl) (flW l) (3 * i + 0) (by omega)) Tryz.isAgg66 Tryz.sizeOf66 (read_cells (k := 2) (fun _ => rfl) ((fun _ => rfl)) (flW l) (0, 0) (3 * i + 0) (by omega)) (.inl rfl) (by decide) ?_
      refine head_pure rfl (by kernel_rfl) (.move rfl) (by decide) ?_
      refine head_pure rfl (by kernel_rfl) (.move rfl) (by decide) ?_
      refine head_pure rfl (by kernel_rfl) (.indexAddr rfl rfl (ix_62 _ _ _ _ _ (by omega))) (by decide) ?_
      refine head_pure rfl (by kernel_rfl) (Pure1.cast (v' := .pointer (some ⟨B_ad, O_ad + (3 * i + 1) * 2, none⟩)) (.fieldAddr rfl (fa_68_1 _ _)) (by rw [show O_ad + i * 6 + 2 = O_ad + (3 * i + 1) * 2 by omega])) (by decide) ?_
      refine head_loadRow rfl (by kernel_rfl) rfl (by first | assumption | (repeat (first | exact List.Mem.head _ | apply List.Mem.tail | apply List.mem_append_right))) (cells_lt (k := 2) (by decide) (fun _ => rfl) (flW l) (3 * i + 1) (by omega)) Tryz.isAgg66 Tryz.sizeOf66 (read_cells (k := 2) (fun _ => rfl) ((fun _ => rfl)) (flW l) (0, 0) (3 * i + 1) (by omega)) (.inl rfl) (by decide) ?_
      refine head_call rfl (by kernel_rfl) (vs := [_]) rfl Tryz.call22 (C_qRef (((flW l).getD (3 * i + 0) (0, 0)).1) (((flW l).getD (3 * i + 0) (0, 0)).2) (by omega) (by omega) (by omega) (by omega)) (by simp) (by decide) ?_; rintro v24 Ψ24 ⟨ad24, c24, bd24, d24, rfl, hle24, hlf24, rfl⟩
      have hl24 := lenQ_qv (((flW l).getD (3 * i + 0) (0, 0)).1) (((flW l).getD (3 * i + 0) (0, 0)).2) (by omega) (by omega) (by omega) (by omega)
      refine head_call rfl (by kernel_rfl) (vs := [_]) rfl Tryz.call22 (C_qRef (((flW l).getD (3 * i + 1) (0, 0)).1) (((flW l).getD (3 * i + 1) (0, 0)).2) (by omega) (by omega) (by omega) (by omega)) (by simp) (by decide) ?_; rintro v30 Ψ30 ⟨ad30, c30, bd30, d30, rfl, hle30, hlf30, rfl⟩
      have hl30 := lenQ_qv (((flW l).getD (3 * i + 1) (0, 0)).1) (((flW l).getD (3 * i + 1) (0, 0)).2) (by omega) (by omega) (by omega) (by omega)
      refine head_float rfl (by kernel_rfl) zeroF (by decide) ?_; intro b6
      refine head_float rfl (by kernel_rfl) zeroF (by decide) ?_; intro b7
      refine head_store rfl (by kernel_rfl) rfl rfl (st_3_0_3 _ _ _ _ _ _) (by repeat (first | exact Upd.head | apply Upd.tail | apply Upd.append)) Tryz.sizeOf50 rfl (Nat.le_of_ble_eq_true rfl) rfl ?_
      refine head_store rfl (by kernel_rfl) rfl rfl (st_3_0_3 _ _ _ _ _ _) (by repeat (first | exact Upd.head | apply Upd.tail | apply Upd.append)) Tryz.sizeOf50 rfl (Nat.le_of_ble_eq_true rfl) rfl ?_
      refine head_nil ?_; intro a w h
      change Code.wp _ _ _ _ _
      refine wp_seq ?_
      refine wp_draws mixed_YtfmbhcnanphckaaGreatDoor h [0, 1, 2, 4, 6, 3, 5, 7, 8, 9, 10, 11] _ (fun _ _ hh => hh) (by kernel_rfl) (floatsOK_none (by kernel_rfl)) ?_; clear h
      refine head_pure rfl (by kernel_rfl) (.move rfl) (by decide) ?_
      refine head_load rfl (by kernel_rfl) rfl (by repeat (first | exact List.Mem.head _ | apply List.Mem.tail | apply List.mem_append_right)) Tryz.isAgg50 Tryz.sizeOf50 (rd_3_0_3 _ _ _) (by decide) ?_
      refine head_load rfl (by kernel_rfl) rfl (by repeat (first | exact List.Mem.head _ | apply List.Mem.tail | apply List.mem_append_right)) Tryz.isAgg50 Tryz.sizeOf50 (rd_3_0_3 _ _ _) (by decide) ?_
      refine head_load rfl (by kernel_rfl) rfl (by repeat (first | exact List.Mem.head _ | apply List.Mem.tail | apply List.mem_append_right)) Tryz.isAgg50 Tryz.sizeOf50 (rd_3_0_3 _ _ _) (by decide) ?_
      refine head_load rfl (by kernel_rfl) rfl (by repeat (first | exact List.Mem.head _ | apply List.Mem.tail | apply List.mem_append_right)) Tryz.isAgg50 Tryz.sizeOf50 (rd_3_0_3 _ _ _) (by decide) ?_
      refine head_call rfl (by kernel_rfl) (vs := [_]) rfl Tryz.call24 (C_fInt 1 (by omega) (by omega)) (by simp) (by decide) ?_; rintro v34 Ψ34 ⟨ad34, c34, bd34, d34, rfl, hle34, hlf34, rfl⟩
      have hl34 := lenQ_int 1 (by omega) (by omega)
      refine head_call rfl (by kernel_rfl) (vs := [_, _]) rfl Tryz.call23 (C_fSub _ _ _ _ _ _ _ _ (((1 : Int) : Rat)) (qv (((flW l).getD (3 * i + 0) (0, 0)).1) (((flW l).getD (3 * i + 0) (0, 0)).2)) (by omega) (by omega)) (by simp) (by decide) ?_; rintro v36 Ψ36 ⟨ad36, c36, bd36, d36, rfl, hle36, hlf36, rfl⟩
      have hl36 := lenQ_sub (((1 : Int) : Rat)) (qv (((flW l).getD (3 * i + 0) (0, 0)).1) (((flW l).getD (3 * i + 0) (0, 0)).2))
      refine head_call rfl (by kernel_rfl) (vs := [_, _]) rfl Tryz.call23 (C_fSub _ _ _ _ _ _ _ _ ((((1 : Int) : Rat)) - (qv (((flW l).getD (3 * i + 0) (0, 0)).1) (((flW l).getD (3 * i + 0) (0, 0)).2))) (qv (((flW l).getD (3 * i + 1) (0, 0)).1) (((flW l).getD (3 * i + 1) (0, 0)).2)) (by omega) (by omega)) (by simp) (by decide) ?_; rintro v38 Ψ38 ⟨ad38, c38, bd38, d38, rfl, hle38, hlf38, rfl⟩
      have hl38 := lenQ_sub ((((1 : Int) : Rat)) - (qv (((flW l).getD (3 * i + 0) (0, 0)).1) (((flW l).getD (3 * i + 0) (0, 0)).2))) (qv (((flW l).getD (3 * i + 1) (0, 0)).1) (((flW l).getD (3 * i + 1) (0, 0)).2))
      refine head_pure rfl (by kernel_rfl) (.build [(_, _), (_, _), (_, _)] rfl (bd_72_0_1_2 _ _ _ _ _ _ _ _ _)) (by decide) ?_
      refine head_buildSlice rfl (by kernel_rfl) [(_, _)] rfl (bs_63_1_0 _ _ _ _ _ _ _ _ _) (by decide) ?_; intro b40
      refine head_appendO (σr := ((b7, .cells (Value.cells (.agg #[.bool (decide ((qv (((flW l).getD (3 * i + 1) (0, 0)).1) (((flW l).getD (3 * i + 1) (0, 0)).2)).num < 0)), .slice ad30 (dg (qv (((flW l).getD (3 * i + 1) (0, 0)).1) (((flW l).getD (3 * i + 1) (0, 0)).2)).num.natAbs).length c30, .slice bd30 (dg ((qv (((flW l).getD (3 * i + 1) (0, 0)).1) (((flW l).getD (3 * i + 1) (0, 0)).2)).den - 1)).length d30])) 50 (0, 0)) :: ((b6, .cells (Value.cells (.agg #[.bool (decide ((qv (((flW l).getD (3 * i + 0) (0, 0)).1) (((flW l).getD (3 * i + 0) (0, 0)).2)).num < 0)), .slice ad24 (dg (qv (((flW l).getD (3 * i + 0) (0, 0)).1) (((flW l).getD (3 * i + 0) (0, 0)).2)).num.natAbs).length c24, .slice bd24 (dg ((qv (((flW l).getD (3 * i + 0) (0, 0)).1) (((flW l).getD (3 * i + 0) (0, 0)).2)).den - 1)).length d24])) 50 (0, 0)) :: (o2 ++ [])))) rfl (by kernel_rfl) rfl rfl (List.Perm.trans (List.Perm.refl _) (List.Perm.cons _ (pm_ca (pm_ca (pm_aa (List.Perm.refl _)))))) hG1 Tryz.runUnderlying63 Tryz.runUnderlying63 Tryz.typeInfo72 Tryz.sizeOf72 Tryz.zeroValue72 rfl (by decide) (by decide) rfl rfl (by decide) (by show 168 * (2 * ((P).length + 1) + 192) ≤ 281474976710656; omega) (by decide) ?_
      intro v41 o41 hG41
      obtain ⟨ad41, c41, rfl⟩ := hG41.is
      have hLn41 : (P).length + 1 = (P ++ [(FT.mk (qv (((flW l).getD (3 * i + 0) (0, 0)).1) (((flW l).getD (3 * i + 0) (0, 0)).2)) ad24 c24 bd24 d24 hle24 hlf24, FT.mk (qv (((flW l).getD (3 * i + 1) (0, 0)).1) (((flW l).getD (3 * i + 1) (0, 0)).2)) ad30 c30 bd30 d30 hle30 hlf30, FT.mk (((((1 : Int) : Rat)) - (qv (((flW l).getD (3 * i + 0) (0, 0)).1) (((flW l).getD (3 * i + 0) (0, 0)).2))) - (qv (((flW l).getD (3 * i + 1) (0, 0)).1) (((flW l).getD (3 * i + 1) (0, 0)).2))) ad38 c38 bd38 d38 hle38 hlf38)]).length := by simp only [List.length_append, List.length_cons, List.length_nil, Nat.zero_add]
      rw [hLn41]; rw [hLn41] at hG41
      replace hG41 : GrowO 9 72 (.slice ad41 (P ++ [(FT.mk (qv (((flW l).getD (3 * i + 0) (0, 0)).1) (((flW l).getD (3 * i + 0) (0, 0)).2)) ad24 c24 bd24 d24 hle24 hlf24, FT.mk (qv (((flW l).getD (3 * i + 1) (0, 0)).1) (((flW l).getD (3 * i + 1) (0, 0)).2)) ad30 c30 bd30 d30 hle30 hlf30, FT.mk (((((1 : Int) : Rat)) - (qv (((flW l).getD (3 * i + 0) (0, 0)).1) (((flW l).getD (3 * i + 0) (0, 0)).2))) - (qv (((flW l).getD (3 * i + 1) (0, 0)).1) (((flW l).getD (3 * i + 1) (0, 0)).2))) ad38 c38 bd38 d38 hle38 hlf38)]).length c41) (P ++ [(FT.mk (qv (((flW l).getD (3 * i + 0) (0, 0)).1) (((flW l).getD (3 * i + 0) (0, 0)).2)) ad24 c24 bd24 d24 hle24 hlf24, FT.mk (qv (((flW l).getD (3 * i + 1) (0, 0)).1) (((flW l).getD (3 * i + 1) (0, 0)).2)) ad30 c30 bd30 d30 hle30 hlf30, FT.mk (((((1 : Int) : Rat)) - (qv (((flW l).getD (3 * i + 0) (0, 0)).1) (((flW l).getD (3 * i + 0) (0, 0)).2))) - (qv (((flW l).getD (3 * i + 1) (0, 0)).1) (((flW l).getD (3 * i + 1) (0, 0)).2))) ad38 c38 bd38 d38 hle38 hlf38)]).length (cellsOf encFP (P ++ [(FT.mk (qv (((flW l).getD (3 * i + 0) (0, 0)).1) (((flW l).getD (3 * i + 0) (0, 0)).2)) ad24 c24 bd24 d24 hle24 hlf24, FT.mk (qv (((flW l).getD (3 * i + 1) (0, 0)).1) (((flW l).getD (3 * i + 1) (0, 0)).2)) ad30 c30 bd30 d30 hle30 hlf30, FT.mk (((((1 : Int) : Rat)) - (qv (((flW l).getD (3 * i + 0) (0, 0)).1) (((flW l).getD (3 * i + 0) (0, 0)).2))) - (qv (((flW l).getD (3 * i + 1) (0, 0)).1) (((flW l).getD (3 * i + 1) (0, 0)).2))) ad38 c38 bd38 d38 hle38 hlf38)])) o41 := by rw [cellsOf_append, cellsOf_one]; exact hG41
      refine head_pure rfl (by kernel_rfl) (.assign rfl) (by decide) ?_
      refine head_nil ?_; intro a w h
      change Code.wp _ _ _ _ _
      refine wp_region_lit ?_
      refine wpl_plain (op_pure h (.move rfl) (by decide) ?_); clear h; intro a h
      refine wpl_plain (op_pure h (.move rfl) (by decide) ?_); clear h; intro a h
      refine wpl_plain (op_pure h (.move rfl) (by decide) ?_); clear h; intro a h
      refine wpl_plain (op_pure h (.indexAddr rfl rfl (ix_62 _ _ _ _ _ (by omega))) (by decide) ?_); clear h; intro a h
      refine wpl_plain (op_pure h (Pure1.cast (v' := .pointer (some ⟨B_ad, O_ad + (3 * i + 2) * 2, none⟩)) (.fieldAddr rfl (fa_68_2 _ _)) (by rw [show O_ad + i * 6 + 4 = O_ad + (3 * i + 2) * 2 by omega])) (by decide) ?_); clear h; intro a h
      refine wpl_plain (op_loadRow h rfl (by first | assumption | (repeat (first | exact List.Mem.head _ | apply List.Mem.tail | apply List.mem_append_right))) (cells_lt (k := 2) (by decide) (fun _ => rfl) (flW l) (3 * i + 2) (by omega)) Tryz.isAgg66 Tryz.sizeOf66 (read_cells (k := 2) (fun _ => rfl) ((fun _ => rfl)) (flW l) (0, 0) (3 * i + 2) (by omega)) (.inl rfl) (by decide) ?_); clear h; intro a h
      refine wpl_plain (op_call h (vs := [_]) rfl Tryz.call22 (C_qRef (((flW l).getD (3 * i + 2) (0, 0)).1) (((flW l).getD (3 * i + 2) (0, 0)).2) (by omega) (by omega) (by omega) (by omega)) (by simp) (by decide) ?_); clear h; rintro v48 Ψ48 a w ⟨ad48, c48, bd48, d48, rfl, hle48, hlf48, rfl⟩ h
      have hl48 := lenQ_qv (((flW l).getD (3 * i + 2) (0, 0)).1) (((flW l).getD (3 * i + 2) (0, 0)).2) (by omega) (by omega) (by omega) (by omega)
      refine wpl_plain (op_buildSlice h [(_, _)] rfl (bs_51_1_0 _ _ _) (by decide) ?_); clear h; intro b49 a w h
      refine wpl_plain (op_appendO (σr := (o41 ++ ((b7, .cells (Value.cells (.agg #[.bool (decide ((qv (((flW l).getD (3 * i + 1) (0, 0)).1) (((flW l).getD (3 * i + 1) (0, 0)).2)).num < 0)), .slice ad30 (dg (qv (((flW l).getD (3 * i + 1) (0, 0)).1) (((flW l).getD (3 * i + 1) (0, 0)).2)).num.natAbs).length c30, .slice bd30 (dg ((qv (((flW l).getD (3 * i + 1) (0, 0)).1) (((flW l).getD (3 * i + 1) (0, 0)).2)).den - 1)).length d30])) 50 (0, 0)) :: ((b6, .cells (Value.cells (.agg #[.bool (decide ((qv (((flW l).getD (3 * i + 0) (0, 0)).1) (((flW l).getD (3 * i + 0) (0, 0)).2)).num < 0)), .slice ad24 (dg (qv (((flW l).getD (3 * i + 0) (0, 0)).1) (((flW l).getD (3 * i + 0) (0, 0)).2)).num.natAbs).length c24, .slice bd24 (dg ((qv (((flW l).getD (3 * i + 0) (0, 0)).1) (((flW l).getD (3 * i + 0) (0, 0)).2)).den - 1)).length d24])) 50 (0, 0)) :: [])))) h rfl rfl (List.Perm.trans (List.Perm.refl _) (List.Perm.cons _ (pm_aa (pm_ca (pm_ca (List.Perm.refl _)))))) hG2 Tryz.runUnderlying51 Tryz.runUnderlying51 Tryz.typeInfo50 Tryz.sizeOf50 zeroF rfl (by decide) (by decide) rfl rfl (by decide) (by show 56 * (2 * ((W).length + 1) + 192) ≤ 281474976710656; omega) (by decide) ?_); clear h
      intro v50 o50 a w hG50 h
      obtain ⟨ad50, c50, rfl⟩ := hG50.is
      have hLn50 : (W).length + 1 = (W ++ [FT.mk (qv (((flW l).getD (3 * i + 2) (0, 0)).1) (((flW l).getD (3 * i + 2) (0, 0)).2)) ad48 c48 bd48 d48 hle48 hlf48]).length := by simp only [List.length_append, List.length_cons, List.length_nil, Nat.zero_add]
      rw [hLn50] at h hG50
      replace hG50 : GrowO 3 50 (.slice ad50 (W ++ [FT.mk (qv (((flW l).getD (3 * i + 2) (0, 0)).1) (((flW l).getD (3 * i + 2) (0, 0)).2)) ad48 c48 bd48 d48 hle48 hlf48]).length c50) (W ++ [FT.mk (qv (((flW l).getD (3 * i + 2) (0, 0)).1) (((flW l).getD (3 * i + 2) (0, 0)).2)) ad48 c48 bd48 d48 hle48 hlf48]).length (cellsOf encF (W ++ [FT.mk (qv (((flW l).getD (3 * i + 2) (0, 0)).1) (((flW l).getD (3 * i + 2) (0, 0)).2)) ad48 c48 bd48 d48 hle48 hlf48])) o50 := by rw [cellsOf_append, cellsOf_one]; exact hG50
      refine wpl_plain (op_pure h (.assign rfl) (by decide) ?_); clear h; intro a h
      refine wpList_nil ?_
      change Code.wp _ _ _ _ _
      refine wp_region_lit ?_
      refine wpl_plain (op_pure h (.move rfl) (by decide) ?_); clear h; intro a h
      refine wpl_plain (op_pure h (Pure1.cast (v' := (.int .i64 ((i + 1 : Nat) : Int))) (.binOp rfl rfl (fun _ => run_addb _ _ _ _ _ (wrap_i64 _ (by omega) (by omega)))) (by show Value.int _ _ = Value.int _ _; congr 1)) (by decide) ?_); clear h; intro a h
      refine wpl_plain (op_pure h (.assign rfl) (by decide) ?_); clear h; intro a h
      refine wpList_nil ?_
      replace h := h.derive (R := AllF (flF (P ++ [(FT.mk (qv (((flW l).getD (3 * i + 0) (0, 0)).1) (((flW l).getD (3 * i + 0) (0, 0)).2)) ad24 c24 bd24 d24 hle24 hlf24, FT.mk (qv (((flW l).getD (3 * i + 1) (0, 0)).1) (((flW l).getD (3 * i + 1) (0, 0)).2)) ad30 c30 bd30 d30 hle30 hlf30, FT.mk (((((1 : Int) : Rat)) - (qv (((flW l).getD (3 * i + 0) (0, 0)).1) (((flW l).getD (3 * i + 0) (0, 0)).2))) - (qv (((flW l).getD (3 * i + 1) (0, 0)).1) (((flW l).getD (3 * i + 1) (0, 0)).2))) ad38 c38 bd38 d38 hle38 hlf38)]))) (fun X hX => by
        rw [flF_snoc]
        exact AllF.snoc (AllF.snoc (AllF.snoc (hX _ (by first | assumption | (repeat (first | exact List.Mem.head _ | apply List.Mem.tail | apply List.mem_append_right)))) (hX _ (by first | assumption | (repeat (first | exact List.Mem.head _ | apply List.Mem.tail | apply List.mem_append_right)))) (hX _ (by first | assumption | (repeat (first | exact List.Mem.head _ | apply List.Mem.tail | apply List.mem_append_right))))) (hX _ (by first | assumption | (repeat (first | exact List.Mem.head _ | apply List.Mem.tail | apply List.mem_append_right)))) (hX _ (by first | assumption | (repeat (first | exact List.Mem.head _ | apply List.Mem.tail | apply List.mem_append_right))))) (hX _ (by first | assumption | (repeat (first | exact List.Mem.head _ | apply List.Mem.tail | apply List.mem_append_right)))) (hX _ (by first | assumption | (repeat (first | exact List.Mem.head _ | apply List.Mem.tail | apply List.mem_append_right)))))
      replace h := h.derive (R := AllF (W ++ [FT.mk (qv (((flW l).getD (3 * i + 2) (0, 0)).1) (((flW l).getD (3 * i + 2) (0, 0)).2)) ad48 c48 bd48 d48 hle48 hlf48])) (fun X hX => AllF.snoc (hX _ (by first | assumption | (repeat (first | exact List.Mem.head _ | apply List.Mem.tail | apply List.mem_append_right)))) (hX _ (by first | assumption | (repeat (first | exact List.Mem.head _ | apply List.Mem.tail | apply List.mem_append_right)))) (hX _ (by first | assumption | (repeat (first | exact List.Mem.head _ | apply List.Mem.tail | apply List.mem_append_right)))))
      exact ⟨i + 1, ⟨by omega, P ++ [(FT.mk (qv (((flW l).getD (3 * i + 0) (0, 0)).1) (((flW l).getD (3 * i + 0) (0, 0)).2)) ad24 c24 bd24 d24 hle24 hlf24, FT.mk (qv (((flW l).getD (3 * i + 1) (0, 0)).1) (((flW l).getD (3 * i + 1) (0, 0)).2)) ad30 c30 bd30 d30 hle30 hlf30, FT.mk (((((1 : Int) : Rat)) - (qv (((flW l).getD (3 * i + 0) (0, 0)).1) (((flW l).getD (3 * i + 0) (0, 0)).2))) - (qv (((flW l).getD (3 * i + 1) (0, 0)).1) (((flW l).getD (3 * i + 1) (0, 0)).2))) ad38 c38 bd38 d38 hle38 hlf38)], W ++ [FT.mk (qv (((flW l).getD (3 * i + 2) (0, 0)).1) (((flW l).getD (3 * i + 2) (0, 0)).2)) ad48 c48 bd48 d48 hle48 hlf48], ad41, c41, o41, ad50, c50, o50, ⟨hR.add rfl rfl, hG41, hG50⟩, by exact (((h.perm (List.Perm.trans (pm_ac (pm_ac (List.Perm.refl _))) (List.Perm.cons _ (List.Perm.trans (pm_ac (pm_ac (List.Perm.refl _))) (List.Perm.cons _ (List.Perm.refl _))))).symm).drop (by repeat (first | exact List.Sublist.refl _ | apply List.Sublist.cons))).factsSub (by simp)).sub (subL ⟨rfl, rfl, rfl, rfl, rfl, rfl, rfl, rfl, trivial⟩)⟩, by omega⟩
    · skip
      have heq_i : l.length = i := by have := of_decide_eq_false hc16; omega
      subst heq_i
      replace h := (St.shareO' (St.shareO' (h.perm (pm_aa (List.Perm.refl _)).symm) hS hG1) hS hG2)
      refine wp_exit ?_
      change Code.wp _ _ _ _ _
      refine wp_seq ?_
      refine wp_region_lit ?_
      refine wpl_plain (op_pure h (.move rfl) (by decide) ?_); clear h; intro a h
      replace h := h.derive (R := Row ad (cellsOf encW l)) (fun X hX => by rw [cells_flW]; exact hX _ (by first | assumption | (repeat (first | exact List.Mem.head _ | apply List.Mem.tail | apply List.mem_append_right))))
      refine wpl_plain (op_call h (vs := [_]) rfl Tryz.call25 (C_made _ _ l hok (by omega)) (by simp) (by decide) ?_); clear h; rintro v52 Ψ52 a w ⟨ad52, c52, bd52, d52, rfl, rfl⟩ h
      refine wpl_plain (op_alloc h Tryz.zeroValue25 (by decide) ?_); clear h; intro b8 a w h
      refine wpl_plain (op_store h rfl rfl (st_2_0_2 _ _ _ _) (by repeat (first | exact Upd.head | apply Upd.tail | apply Upd.append)) Tryz.sizeOf25 rfl (Nat.le_of_ble_eq_true rfl) rfl ?_); clear h; intro a w h
      refine wpList_nil ?_
      change Code.wp _ _ _ _ _
      refine wp_seq ?_
      refine wp_region_lit ?_
      refine wpl_plain (op_load h rfl (by repeat (first | exact List.Mem.head _ | apply List.Mem.tail | apply List.mem_append_right)) Tryz.isAgg25 Tryz.sizeOf25 (rd_2_0_2 _ _) (by decide) ?_); clear h; intro a h
      refine wpl_plain (op_callW h (vs := [_]) rfl Tryz.call26 (C_Check _ _ c52 d52 (lstT (madP (flW l)) l.length) (lstT (madW (flW l)) l.length) (by rw [lstT_len]; omega) (by rw [lstT_len]; omega) (lenQ_madP hok (by omega))) (by simp) (by decide) ?_); clear h; intro a w h
      refine wpl_plain (op_pure h (.binOp rfl rfl (fun _ => run_eql _ _ _ _ _)) (by decide) ?_); clear h; intro a h
      refine by_bool h (fun hc55 h => ?_) (fun hc55 h => (by exfalso; rw [mad_check] at hc55; exact absurd hc55 (by decide)))
      refine wpl_plain (op_pure h (.move rfl) (by decide) ?_); clear h; intro a h
      refine wpl_guard 56 h rfl rfl (op_load h rfl (by repeat (first | exact List.Mem.head _ | apply List.Mem.tail | apply List.mem_append_right)) Tryz.isAgg25 Tryz.sizeOf25 (rd_2_0_2 _ _) (by decide) ?_); clear h; intro a h
      refine wpl_guard 56 h rfl rfl (op_callW h (vs := [_]) rfl Tryz.call21 (C_Exact _ _ c52 d52 (lstT (madP (flW l)) l.length) (lstT (madW (flW l)) l.length) (by rw [lstT_len]; omega) (by rw [lstT_len]; omega) (lenQ_madP hok (by omega)) (lenQ_madW hok (by omega)) (mad_check _ _)) (by simp) (by decide) ?_); clear h; intro a w h
      refine wpl_guard 56 h rfl rfl (op_pure h (.move rfl) (by decide) ?_); clear h; intro a h
      refine wpl_guard 56 h rfl rfl (op_pure h (.move rfl) (by decide) ?_); clear h; intro a h
      refine wpl_guard 56 h rfl rfl (op_callW h (vs := [_, _]) rfl Tryz.call27 (C_rExact ad1 ad2 c1 c2 P W (by rw [hR.lenP]; omega) (by rw [hR.lenP, hR.lenW]) (flF_len_le hok (by omega) hR.hP) (wF_len_le hok (by omega) hR.hW)) (by simp) (by decide) ?_); clear h; intro a w h
      refine wpl_guard 56 h rfl rfl (op_pure h (.binOp rfl rfl (fun _ => run_eql _ _ _ _ _)) (by decide) ?_); clear h; intro a h
      refine by_bool h (fun hc62 h => ?_) (fun hc62 h => (by exfalso; rw [hR.hP, hR.hW] at hc62; exact absurd hc62 (by simp)))
      refine wpl_plain (op_pure h (.pickT rfl rfl) (by decide) ?_); clear h; intro a h
      refine wpl_plain (op_pure h (.move rfl) (by decide) ?_); clear h; intro a h
      refine wpl_guard 64 h rfl rfl (op_callV h (vs := []) rfl Tryz.call13 (C_works) (by decide) ?_); clear h; intro a w h
      refine wpl_plain (op_pure h (.pickT rfl rfl) (by decide) ?_); clear h; intro a h
      refine wpl_plain (op_pure h (.assign rfl) (by decide) ?_); clear h; intro a h
      refine wpList_nil ?_
      change Code.wp _ _ _ _ _
      refine wp_ret ?_
      refine retV h (results1 h rfl (.tmp rfl)) ?_
      rfl
end Go.Proofs.YtfmbhcnanphckaaGreatDoor
