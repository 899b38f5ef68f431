/- Written by a program of ours (gen.py) out of short specifications. By an AI agent. -/
import Derived.Test.YtkhnecelhpnaoaaGreatDoorLaw10c
set_option linter.unusedVariables false
set_option linter.unusedSimpArgs false
set_option maxRecDepth 4000
namespace Go.Proofs.YtkhnecelhpnaoaaGreatDoor
open Go Go.Proofs Go.Fx
attribute [local irreducible] Oper.wp Code.wp wpList Fx.Head wpOp
theorem len_slice_40 (a : Option Addr) (n c : Nat) (w : World) (ty : TypeId) (cs : Array Bool) : (Go.builtin .len #[40] ty cs #[.slice a n c]).run Tryz.prog w = .ok (.value (.int .i64 n)) w := by
  simp [go_sem]
theorem ix_40 (b off n c j : Nat) (h : j < n) (w : World) : (Instr.indexAt 40 (.slice (some ⟨b, off, none⟩) n c) (.int .i64 (j : Int))).run Tryz.prog w = .ok (.pointer (some ⟨b, off + j * 6, none⟩)) w := by
  simpa using indexAt_slice Tryz.runUnderlying40 Tryz.sizeOf73 b off n c j h w
theorem fa_73_0 (b off : Nat) (w : World) : (Instr.fieldAt 73 (.pointer (some ⟨b, off, none⟩)) 0).run Tryz.prog w = .ok (.pointer (some ⟨b, off + 0, none⟩)) w := by
  simp [go_sem]
theorem fa_73_1 (b off : Nat) (w : World) : (Instr.fieldAt 73 (.pointer (some ⟨b, off, none⟩)) 1).run Tryz.prog w = .ok (.pointer (some ⟨b, off + 2, none⟩)) w := by
  simp [go_sem]
theorem fa_73_2 (b off : Nat) (w : World) : (Instr.fieldAt 73 (.pointer (some ⟨b, off, none⟩)) 2).run Tryz.prog w = .ok (.pointer (some ⟨b, off + 4, none⟩)) w := by
  simp [go_sem]
abbrev encW (w : (Int × Int) × (Int × Int) × (Int × Int)) : Value := .agg #[.int .i64 w.1.1, .int .u32 w.1.2, .int .i64 w.2.1.1, .int .u32 w.2.1.2, .int .i64 w.2.2.1, .int .u32 w.2.2.2]
def flW (l : List ((Int × Int) × (Int × Int) × (Int × Int))) : List (Int × Int) := l.flatMap (fun p => [p.1, p.2.1, p.2.2])
theorem cells_flW : ∀ l, cellsOf encW l = cellsOf encQ2 (flW l)
  | [] => rfl
  | p :: l => by
    have h := cells_flW l
    unfold flW cellsOf at *
    rw [List.flatMap_cons, List.flatMap_cons, List.flatMap_append, ← h]; rfl
theorem flW_len : ∀ l, (flW l).length = 3 * l.length
  | [] => rfl
  | p :: l => by
    have h := flW_len l
    unfold flW at *
    rw [List.flatMap_cons, List.length_append, h]; show 3 + 3 * l.length = 3 * (l.length + 1); omega
def qa (T : List (Int × Int)) (j : Nat) : Rat := qv (T.getD j (0, 0)).1 (T.getD j (0, 0)).2
def madP (T : List (Int × Int)) (i : Nat) : Rat × Rat × Rat := (qa T (3 * i + 0), qa T (3 * i + 1), ((1 : Int) : Rat) - qa T (3 * i + 0) - qa T (3 * i + 1))
def madW (T : List (Int × Int)) (i : Nat) : Rat := qa T (3 * i + 2)
def PostMade (T : List (Int × Int)) (n : Nat) (v : Value) (Ψ : List SPred) : Prop := ∃ ad1 c1 ad2 c2, v = .agg #[.slice ad1 (lstT (madP T) n).length c1, .slice ad2 (lstT (madW T) n).length c2] ∧ Ψ = [Row ad2 (cellsOf encQ (lstT (madW T) n)), Row ad1 (cellsOf encP (lstT (madP T) n))]

theorem C_made (ad : Option Addr) (c : Nat) (l : List ((Int × Int) × (Int × Int) × (Int × Int))) (hok : ∀ q ∈ flW l, OkQ q) (hn : l.length ≤ 1000) : Ctr Tryz.prog 21 [.slice ad l.length c] [Row ad (cellsOf encW l)] (PostMade (flW l) l.length) := by
  refine fn_intro Tryz.func21 rfl Tryz.ntmps21 nb ?_
  intro S w0 a hS h
  rw [cells_flW l] at h
  have hfl := flW_len l
  refine gC h (zs (zr (zz Tryz.zeroValue58 fun b2 => zn (zs (zr (zz Tryz.zeroValue58 fun b3 => zn (zs (zs (zr (za rfl (zn (zb ?_)))))))))))); clear h; intro a w h
  refine wp_loop_inv (fun (i : Nat) a w => i ≤ l.length ∧ ∃ (ad1 : Option Addr) (c1 : Nat) (o1 : List (Nat × Obj)) (ad2 : Option Addr) (c2 : Nat) (o2 : List (Nat × Obj)), (GrowO 15 62 (.slice ad1 (lstT (madP (flW l)) i).length c1) (lstT (madP (flW l)) i).length (cellsOf encP (lstT (madP (flW l)) i)) o1 ∧ GrowO 5 52 (.slice ad2 (lstT (madW (flW l)) i).length c2) (lstT (madW (flW l)) i).length (cellsOf encQ (lstT (madW (flW l)) i)) o2) ∧ St 50 S w0 [(0, .slice ad l.length c), (2, .pointer (some ⟨b2, 0, none⟩)), (3, .pointer (some ⟨b3, 0, none⟩)), (4, .int .i64 ((i : Nat) : Int))] (o2 ++ (o1 ++ ((b3, .cells (Value.cells (.agg #[(.slice ad1 (lstT (madP (flW l)) i).length c1), (.slice ad2 (lstT (madW (flW l)) i).length c2)])) 58 (0, 0)) :: ((b2, .cells (Value.cells (.agg #[.slice none 0 0, .slice none 0 0])) 58 (0, 0)) :: [])))) [Row ad (cellsOf encQ2 (flW l))] a w) (fun i => l.length - i) 0 (⟨Nat.zero_le _, none, 0, [], none, 0, [], ⟨GrowO.nil _ _, GrowO.nil _ _⟩, by exact (h).sub (subL ⟨rfl, rfl, rfl, rfl, trivial⟩)⟩) ?_; clear h
  rintro i a w ⟨hi_i, ad1, c1, o1, ad2, c2, o2, ⟨hG1, hG2⟩, h⟩
  refine gC h (zs (zs (zr (zm rfl (zm rfl (zp (.builtin [_] rfl (len_slice_40 _ _ _)) (zp (.lss rfl rfl) (zn ?_)))))))); clear h; intro a w h
  change Code.wp _ _ _ _ _
  refine cond_split h rfl (fun hc10 => ?_) (fun hc10 => ?_)
  · skip
    have hlt_i : i < l.length := by have := of_decide_eq_true hc10; omega
    obtain ⟨B_ad, O_ad, rfl⟩ := h.row_addr (ad := ad) (M := cellsOf encQ2 (flW l)) mm (by intro e; have := congrArg List.length e; rw [cellsOf_length (k := 2) (fun _ => rfl)] at this; simp only [List.length_nil, Nat.mul_eq_zero] at this; omega)
    obtain ⟨hq0a, hq0b, hq0c, hq0d⟩ := hok _ (getD_mem (flW l) (i := 3 * i + 0) (d := (0, 0)) (by omega))
    obtain ⟨hq1a, hq1b, hq1c, hq1d⟩ := hok _ (getD_mem (flW l) (i := 3 * i + 1) (d := (0, 0)) (by omega))
    obtain ⟨hq2a, hq2b, hq2c, hq2d⟩ := hok _ (getD_mem (flW l) (i := 3 * i + 2) (d := (0, 0)) (by omega))
    have hg1 := lstT_len (madP (flW l)) i
    have hg2 := lstT_len (madW (flW l)) i
    refine gC h (zk (zs (zb (zs (yD mixed_YtkhnecelhpnaoaaGreatDoor [0, 1, 2, 3, 4, 6, 7, 8, 9, 10, 5, 11, 12, 13, 14, 15] (floatsOK_of ⟨.inl rfl, .inl rfl, .inl rfl, .inl rfl, .inl rfl, .inl rfl, .inl rfl, .inl rfl, .inl rfl, .inl rfl, .inl rfl, .inl rfl, .inr ⟨5, 52, _, _, _, rfl, rfl, by decide, _, zeroQ⟩, .inr ⟨6, 52, _, _, _, rfl, rfl, by decide, _, zeroQ⟩, .inl rfl, .inl rfl, trivial⟩) (yp rfl (.move rfl) (yp rfl (.move rfl) (yp rfl (.indexAddr rfl rfl (ix_40 _ _ _ _ _ (by omega))) (yp rfl (Pure1.cast (v' := .pointer (some ⟨B_ad, O_ad + (3 * i + 0) * 2, none⟩)) (.fieldAddr rfl (fa_73_0 _ _)) (by rw [show O_ad + i * 6 + 0 = O_ad + (3 * i + 0) * 2 by omega])) ?_))))))))); clear h
    refine head_loadRow rfl (by kernel_rfl) rfl mm (cells_lt (k := 2) (by decide) (fun _ => rfl) (flW l) (3 * i + 0) (by omega)) Tryz.isAgg24 Tryz.sizeOf24 (read_cells (k := 2) (fun _ => rfl) ((fun _ => rfl)) (flW l) (0, 0) (3 * i + 0) (by omega)) (.inl rfl) (by decide) ?_
    refine yp rfl (.move rfl) (yp rfl (.move rfl) (yp rfl (.indexAddr rfl rfl (ix_40 _ _ _ _ _ (by omega))) (yp rfl (Pure1.cast (v' := .pointer (some ⟨B_ad, O_ad + (3 * i + 1) * 2, none⟩)) (.fieldAddr rfl (fa_73_1 _ _)) (by rw [show O_ad + i * 6 + 2 = O_ad + (3 * i + 1) * 2 by omega])) ?_)))
    refine head_loadRow rfl (by kernel_rfl) rfl mm (cells_lt (k := 2) (by decide) (fun _ => rfl) (flW l) (3 * i + 1) (by omega)) Tryz.isAgg24 Tryz.sizeOf24 (read_cells (k := 2) (fun _ => rfl) ((fun _ => rfl)) (flW l) (0, 0) (3 * i + 1) (by omega)) (.inl rfl) (by decide) ?_
    refine yv [_] rfl rfl Tryz.call23 (C_qOf (((flW l).getD (3 * i + 0) (0, 0)).1) (((flW l).getD (3 * i + 0) (0, 0)).2) (by omega) (by omega) (by omega) (by omega)) ?_
    have hl18 := lenQ_qv (((flW l).getD (3 * i + 0) (0, 0)).1) (((flW l).getD (3 * i + 0) (0, 0)).2) (by omega) (by omega) (by omega) (by omega)
    refine yv [_] rfl rfl Tryz.call23 (C_qOf (((flW l).getD (3 * i + 1) (0, 0)).1) (((flW l).getD (3 * i + 1) (0, 0)).2) (by omega) (by omega) (by omega) (by omega)) ?_
    have hl24 := lenQ_qv (((flW l).getD (3 * i + 1) (0, 0)).1) (((flW l).getD (3 * i + 1) (0, 0)).2) (by omega) (by omega) (by omega) (by omega)
    refine yz rfl zeroQ fun b5 => yz rfl zeroQ fun b6 => yt rfl rfl rfl (st_5_0_5 _ _ _ _ _ _ _ _ _ _) uu Tryz.sizeOf52 rfl nb rfl ?_
    refine yt rfl rfl rfl (st_5_0_5 _ _ _ _ _ _ _ _ _ _) uu Tryz.sizeOf52 rfl nb rfl ?_
    refine yn (zs (yD mixed_YtkhnecelhpnaoaaGreatDoor [0, 1, 2, 3, 5, 7, 4, 6, 8, 9, 10, 11, 12, 13] (floatsOK_none (by kernel_rfl)) (yp rfl (.fieldAddr rfl (fa_58_0 _ _)) (yd rfl rfl mr Tryz.isAgg55 Tryz.sizeOf55 (rs_2_0 _ _) ?_))))
    refine yd rfl rfl mr Tryz.isAgg52 Tryz.sizeOf52 (rd_5_0_5 _ _ _ _ _) ?_
    refine yd rfl rfl mr Tryz.isAgg52 Tryz.sizeOf52 (rd_5_0_5 _ _ _ _ _) ?_
    refine yd rfl rfl mr Tryz.isAgg52 Tryz.sizeOf52 (rd_5_0_5 _ _ _ _ _) ?_
    refine yd rfl rfl mr Tryz.isAgg52 Tryz.sizeOf52 (rd_5_0_5 _ _ _ _ _) ?_
    refine yv [_] rfl rfl Tryz.call28 (C_QInt _ (by omega) (by omega)) ?_
    have hl29 := lenQ_int (1) (by omega) (by omega)
    refine yv [_, _] rfl rfl Tryz.call58 (C_QSub _ _ (by omega) (by omega)) ?_
    have hl31 := lenQ_sub (((1 : Int) : Rat)) (qv (((flW l).getD (3 * i + 0) (0, 0)).1) (((flW l).getD (3 * i + 0) (0, 0)).2))
    refine yv [_, _] rfl rfl Tryz.call58 (C_QSub _ _ (by omega) (by omega)) ?_
    have hl33 := lenQ_sub ((((1 : Int) : Rat)) - (qv (((flW l).getD (3 * i + 0) (0, 0)).1) (((flW l).getD (3 * i + 0) (0, 0)).2))) (qv (((flW l).getD (3 * i + 1) (0, 0)).1) (((flW l).getD (3 * i + 1) (0, 0)).2))
    refine yp rfl (.build [(_, _), (_, _), (_, _)] rfl (bd_62_0_1_2 _ _ _ _ _ _ _ _ _ _ _ _ _ _ _)) (yB rfl [(_, _)] rfl (bs_55_1_0 _ _ _ _ _ _ _ _ _ _ _ _ _ _ _) fun b35 => ?_)
    refine head_appendO (σr := ((b6, .cells (Value.cells (encQ (qv (((flW l).getD (3 * i + 1) (0, 0)).1) (((flW l).getD (3 * i + 1) (0, 0)).2)))) 52 (0, 0)) :: ((b5, .cells (Value.cells (encQ (qv (((flW l).getD (3 * i + 0) (0, 0)).1) (((flW l).getD (3 * i + 0) (0, 0)).2)))) 52 (0, 0)) :: (o2 ++ ((b3, .cells (Value.cells (.agg #[(.slice ad1 (lstT (madP (flW l)) i).length c1), (.slice ad2 (lstT (madW (flW l)) i).length c2)])) 58 (0, 0)) :: ((b2, .cells (Value.cells (.agg #[.slice none 0 0, .slice none 0 0])) 58 (0, 0)) :: [])))))) rfl (by kernel_rfl) rfl rfl (List.Perm.trans (List.Perm.refl _) (List.Perm.cons _ (pm_ca (pm_ca (pm_aa (List.Perm.refl _)))))) hG1 Tryz.runUnderlying55 Tryz.runUnderlying55 Tryz.typeInfo62 Tryz.sizeOf62 zeroP rfl (by decide) (by decide) rfl rfl (by decide) (by show 168 * (2 * ((lstT (madP (flW l)) i).length + 1) + 192) ≤ 281474976710656; omega) (by decide) ?_
    intro v36 o36 hG36
    obtain ⟨ad36, c36, rfl⟩ := hG36.is
    have hLn36 : (lstT (madP (flW l)) i).length + 1 = ((lstT (madP (flW l)) i) ++ [(qv (((flW l).getD (3 * i + 0) (0, 0)).1) (((flW l).getD (3 * i + 0) (0, 0)).2), qv (((flW l).getD (3 * i + 1) (0, 0)).1) (((flW l).getD (3 * i + 1) (0, 0)).2), ((((1 : Int) : Rat)) - (qv (((flW l).getD (3 * i + 0) (0, 0)).1) (((flW l).getD (3 * i + 0) (0, 0)).2))) - (qv (((flW l).getD (3 * i + 1) (0, 0)).1) (((flW l).getD (3 * i + 1) (0, 0)).2)))]).length := by simp only [List.length_append, List.length_cons, List.length_nil, Nat.zero_add]
    rw [hLn36]; rw [hLn36] at hG36
    replace hG36 : GrowO 15 62 (.slice ad36 ((lstT (madP (flW l)) i) ++ [(qv (((flW l).getD (3 * i + 0) (0, 0)).1) (((flW l).getD (3 * i + 0) (0, 0)).2), qv (((flW l).getD (3 * i + 1) (0, 0)).1) (((flW l).getD (3 * i + 1) (0, 0)).2), ((((1 : Int) : Rat)) - (qv (((flW l).getD (3 * i + 0) (0, 0)).1) (((flW l).getD (3 * i + 0) (0, 0)).2))) - (qv (((flW l).getD (3 * i + 1) (0, 0)).1) (((flW l).getD (3 * i + 1) (0, 0)).2)))]).length c36) ((lstT (madP (flW l)) i) ++ [(qv (((flW l).getD (3 * i + 0) (0, 0)).1) (((flW l).getD (3 * i + 0) (0, 0)).2), qv (((flW l).getD (3 * i + 1) (0, 0)).1) (((flW l).getD (3 * i + 1) (0, 0)).2), ((((1 : Int) : Rat)) - (qv (((flW l).getD (3 * i + 0) (0, 0)).1) (((flW l).getD (3 * i + 0) (0, 0)).2))) - (qv (((flW l).getD (3 * i + 1) (0, 0)).1) (((flW l).getD (3 * i + 1) (0, 0)).2)))]).length (cellsOf encP ((lstT (madP (flW l)) i) ++ [(qv (((flW l).getD (3 * i + 0) (0, 0)).1) (((flW l).getD (3 * i + 0) (0, 0)).2), qv (((flW l).getD (3 * i + 1) (0, 0)).1) (((flW l).getD (3 * i + 1) (0, 0)).2), ((((1 : Int) : Rat)) - (qv (((flW l).getD (3 * i + 0) (0, 0)).1) (((flW l).getD (3 * i + 0) (0, 0)).2))) - (qv (((flW l).getD (3 * i + 1) (0, 0)).1) (((flW l).getD (3 * i + 1) (0, 0)).2)))])) o36 := by rw [cellsOf_append, cellsOf_one]; exact hG36
    refine yp rfl (.fieldAddr rfl (fa_58_0 _ _)) (yt rfl rfl rfl (st_2_0_1 _ _ _) uu Tryz.sizeOf55 rfl nb (by show ((flat ((.slice ad36 ((lstT (madP (flW l)) i) ++ [(qv (((flW l).getD (3 * i + 0) (0, 0)).1) (((flW l).getD (3 * i + 0) (0, 0)).2), qv (((flW l).getD (3 * i + 1) (0, 0)).1) (((flW l).getD (3 * i + 1) (0, 0)).2), ((((1 : Int) : Rat)) - (qv (((flW l).getD (3 * i + 0) (0, 0)).1) (((flW l).getD (3 * i + 0) (0, 0)).2))) - (qv (((flW l).getD (3 * i + 1) (0, 0)).1) (((flW l).getD (3 * i + 1) (0, 0)).2)))]).length c36)) && true)) = true; simp only [GrowO.flat (hG36)]; rfl) ?_)
    refine yn (yD mixed_YtkhnecelhpnaoaaGreatDoor [0, 1, 2, 3, 4, 5, 6, 7, 8, 9, 10, 11] (floatsOK_none (by kernel_rfl)) (yp rfl (.fieldAddr rfl (fa_58_1 _ _)) (yd rfl rfl mr Tryz.isAgg56 Tryz.sizeOf56 (rs_2_1 _ _) ?_)))
    refine yp rfl (.move rfl) (yp rfl (.move rfl) (yp rfl (.indexAddr rfl rfl (ix_40 _ _ _ _ _ (by omega))) (yp rfl (Pure1.cast (v' := .pointer (some ⟨B_ad, O_ad + (3 * i + 2) * 2, none⟩)) (.fieldAddr rfl (fa_73_2 _ _)) (by rw [show O_ad + i * 6 + 4 = O_ad + (3 * i + 2) * 2 by omega])) ?_)))
    refine head_loadRow rfl (by kernel_rfl) rfl mm (cells_lt (k := 2) (by decide) (fun _ => rfl) (flW l) (3 * i + 2) (by omega)) Tryz.isAgg24 Tryz.sizeOf24 (read_cells (k := 2) (fun _ => rfl) ((fun _ => rfl)) (flW l) (0, 0) (3 * i + 2) (by omega)) (.inl rfl) (by decide) ?_
    refine yv [_] rfl rfl Tryz.call23 (C_qOf (((flW l).getD (3 * i + 2) (0, 0)).1) (((flW l).getD (3 * i + 2) (0, 0)).2) (by omega) (by omega) (by omega) (by omega)) ?_
    have hl45 := lenQ_qv (((flW l).getD (3 * i + 2) (0, 0)).1) (((flW l).getD (3 * i + 2) (0, 0)).2) (by omega) (by omega) (by omega) (by omega)
    refine yB rfl [(_, _)] rfl (bs_56_1_0 _ _ _ _ _) fun b46 => ?_
    refine head_appendO (σr := (o36 ++ ((b6, .cells (Value.cells (encQ (qv (((flW l).getD (3 * i + 1) (0, 0)).1) (((flW l).getD (3 * i + 1) (0, 0)).2)))) 52 (0, 0)) :: ((b5, .cells (Value.cells (encQ (qv (((flW l).getD (3 * i + 0) (0, 0)).1) (((flW l).getD (3 * i + 0) (0, 0)).2)))) 52 (0, 0)) :: ((b3, .cells (Value.cells (.agg #[(.slice ad36 ((lstT (madP (flW l)) i) ++ [(qv (((flW l).getD (3 * i + 0) (0, 0)).1) (((flW l).getD (3 * i + 0) (0, 0)).2), qv (((flW l).getD (3 * i + 1) (0, 0)).1) (((flW l).getD (3 * i + 1) (0, 0)).2), ((((1 : Int) : Rat)) - (qv (((flW l).getD (3 * i + 0) (0, 0)).1) (((flW l).getD (3 * i + 0) (0, 0)).2))) - (qv (((flW l).getD (3 * i + 1) (0, 0)).1) (((flW l).getD (3 * i + 1) (0, 0)).2)))]).length c36), (.slice ad2 (lstT (madW (flW l)) i).length c2)])) 58 (0, 0)) :: ((b2, .cells (Value.cells (.agg #[.slice none 0 0, .slice none 0 0])) 58 (0, 0)) :: [])))))) rfl (by kernel_rfl) rfl rfl (List.Perm.trans (List.Perm.refl _) (List.Perm.cons _ (pm_aa (pm_ca (pm_ca (List.Perm.refl _)))))) hG2 Tryz.runUnderlying56 Tryz.runUnderlying56 Tryz.typeInfo52 Tryz.sizeOf52 zeroQ rfl (by decide) (by decide) rfl rfl (by decide) (by show 56 * (2 * ((lstT (madW (flW l)) i).length + 1) + 192) ≤ 281474976710656; omega) (by decide) ?_
    intro v47 o47 hG47
    obtain ⟨ad47, c47, rfl⟩ := hG47.is
    have hLn47 : (lstT (madW (flW l)) i).length + 1 = ((lstT (madW (flW l)) i) ++ [qv (((flW l).getD (3 * i + 2) (0, 0)).1) (((flW l).getD (3 * i + 2) (0, 0)).2)]).length := by simp only [List.length_append, List.length_cons, List.length_nil, Nat.zero_add]
    rw [hLn47]; rw [hLn47] at hG47
    replace hG47 : GrowO 5 52 (.slice ad47 ((lstT (madW (flW l)) i) ++ [qv (((flW l).getD (3 * i + 2) (0, 0)).1) (((flW l).getD (3 * i + 2) (0, 0)).2)]).length c47) ((lstT (madW (flW l)) i) ++ [qv (((flW l).getD (3 * i + 2) (0, 0)).1) (((flW l).getD (3 * i + 2) (0, 0)).2)]).length (cellsOf encQ ((lstT (madW (flW l)) i) ++ [qv (((flW l).getD (3 * i + 2) (0, 0)).1) (((flW l).getD (3 * i + 2) (0, 0)).2)])) o47 := by rw [cellsOf_append, cellsOf_one]; exact hG47
    refine yp rfl (.fieldAddr rfl (fa_58_1 _ _)) (yt rfl rfl rfl (st_2_1_1 _ _ _) uu Tryz.sizeOf56 rfl nb (by show ((flat ((.slice ad47 ((lstT (madW (flW l)) i) ++ [qv (((flW l).getD (3 * i + 2) (0, 0)).1) (((flW l).getD (3 * i + 2) (0, 0)).2)]).length c47)) && true)) = true; simp only [GrowO.flat (hG47)]; rfl) ?_)
    refine yn (zr (zm rfl (zp (Pure1.cast (v' := (.int .i64 ((i + 1 : Nat) : Int))) (.add rfl rfl) (by show Value.int _ _ = Value.int _ _; congr 1)) (za rfl (zn ?_))))); intro a w h
    exact ⟨i + 1, ⟨by omega, ad36, c36, o36, ad47, c47, o47, ⟨hG36, hG47⟩, by exact (((h.perm (List.Perm.trans (pm_ac (pm_ac (List.Perm.refl _))) (List.Perm.cons _ (List.Perm.trans (pm_ac (pm_ac (List.Perm.refl _))) (List.Perm.cons _ (List.Perm.refl _))))).symm).drop (by repeat (first | exact List.Sublist.refl _ | apply List.Sublist.cons))).factsSub (by simp)).sub sA⟩, by omega⟩
  · skip
    have heq_i : l.length = i := by have := of_decide_eq_false hc10; omega
    subst heq_i
    refine gC h (ze (zs (zr (zd rfl mr Tryz.isAgg58 Tryz.sizeOf58 (rd_2_0_2 _ _) ?_)))); clear h; intro a w h
    refine gL h (zt' rfl rfl (st_2_0_2 _ _ _ _) uu Tryz.sizeOf58 rfl nb (by show ((flat ((.slice ad1 (lstT (madP (flW l)) l.length).length c1)) && (flat ((.slice ad2 (lstT (madW (flW l)) l.length).length c2)) && true))) = true; simp only [GrowO.flat (hG1), GrowO.flat (hG2)]; rfl) ?_); clear h; intro a w h
    refine wpList_nil (wp_ret ?_)
    replace h := (St.shareO' (St.shareO' (h.perm (pm_aa (List.Perm.refl _)).symm) hS hG1) hS hG2)
    refine ret_of (Ψ := [Row ad2 (cellsOf encQ (lstT (madW (flW l)) l.length)), Row ad1 (cellsOf encP (lstT (madP (flW l)) l.length))]) h (results1 h rfl (.cell rfl mr Tryz.isAgg58 Tryz.sizeOf58 (rd_2_0_2 _ _))) ⟨ad1, c1, ad2, c2, rfl, rfl⟩ (by simp)

theorem madP_sum (T : List (Int × Int)) (i : Nat) : sum3 (madP T i) = ((1 : Int) : Rat) := by
  unfold sum3 madP
  simp only [List.foldl_cons, List.foldl_nil]
  generalize qa T (3 * i + 0) = a
  generalize qa T (3 * i + 1) = b
  rw [Rat.zero_add, Rat.sub_eq_add_neg (_ - a), Rat.sub_eq_add_neg _ a, Rat.add_assoc ((1 : Int) : Rat), Rat.add_comm ((1 : Int) : Rat), ← Rat.add_assoc, ← Rat.add_assoc, Rat.add_assoc a b, Rat.add_comm b, ← Rat.add_assoc a (-a) b, Rat.add_neg_cancel, Rat.zero_add, Rat.add_neg_cancel, Rat.zero_add]
theorem lstT_mem {α : Type} {f : Nat → α} {x : α} : ∀ {i}, x ∈ lstT f i → ∃ j, j < i ∧ x = f j
  | 0, h => by cases h
  | i + 1, h => by
    rw [lstT, List.mem_append, List.mem_singleton] at h
    rcases h with h | h
    · obtain ⟨j, h1, h2⟩ := lstT_mem h; exact ⟨j, by omega, h2⟩
    · exact ⟨i, by omega, h⟩
theorem mad_check (T : List (Int × Int)) (n : Nat) : checkI (lstT (madP T) n) (lstT (madW T) n) = 0 := by
  unfold checkI; rw [lstT_len, lstT_len, if_pos rfl, if_pos]
  intro p hp
  obtain ⟨j, _, rfl⟩ := lstT_mem hp
  exact madP_sum T j
theorem lenQ_qa {T : List (Int × Int)} (hok : ∀ q ∈ T, OkQ q) {j : Nat} (h : j < T.length) : lenQ (qa T j) ≤ 4 := by
  obtain ⟨h0, h1, h2, h3⟩ := hok _ (getD_mem T (d := (0, 0)) h)
  exact lenQ_qv _ _ h0 h1 h2 h3
theorem lenQ_madP {T : List (Int × Int)} (hok : ∀ q ∈ T, OkQ q) {n : Nat} (hn : 3 * n ≤ T.length) : ∀ p ∈ lstT (madP T) n, lenQ p.1 ≤ 1000 ∧ lenQ p.2.1 ≤ 1000 ∧ lenQ p.2.2 ≤ 1000 := by
  intro p hp
  obtain ⟨j, hj, rfl⟩ := lstT_mem hp
  have h1 := lenQ_qa hok (j := 3 * j + 0) (by omega)
  have h2 := lenQ_qa hok (j := 3 * j + 1) (by omega)
  have h3 := lenQ_one
  have h4 := lenQ_sub ((1 : Int) : Rat) (qa T (3 * j + 0))
  have h5 := lenQ_sub (((1 : Int) : Rat) - qa T (3 * j + 0)) (qa T (3 * j + 1))
  rw [one_int] at *
  unfold madP
  simp only
  rw [one_int]
  omega
theorem lenQ_madW {T : List (Int × Int)} (hok : ∀ q ∈ T, OkQ q) {n : Nat} (hn : 3 * n ≤ T.length) : ∀ x ∈ lstT (madW T) n, lenQ x ≤ 1000 := by
  intro p hp
  obtain ⟨j, hj, rfl⟩ := lstT_mem hp
  have h1 := lenQ_qa hok (j := 3 * j + 2) (by omega)
  unfold madW; omega
end Go.Proofs.YtkhnecelhpnaoaaGreatDoor
