/- Written by a program of ours (gen.py) out of short specifications. By an AI agent. -/
import Derived.Test.YtkhnecelhpnaoaaGreatDoorLaw10i
set_option linter.unusedVariables false
set_option linter.unusedSimpArgs false
set_option maxRecDepth 4000
namespace Go.Proofs.YtkhnecelhpnaoaaGreatDoor
open Go Go.Proofs Go.Fx
attribute [local irreducible] Oper.wp Code.wp wpList Fx.Head wpOp

/-- What made returns, when it owns what it has grown. -/
def PostMadeM (T : List (Int × Int)) (n : Nat) (σ : List (Nat × Obj)) (Φ : List SPred) (v : Value) (σ' : List (Nat × Obj)) (Φ' : List SPred) : Prop :=
  ∃ (ad1 : Option Addr) (c1 : Nat) (o1 : List (Nat × Obj)) (ad2 : Option Addr) (c2 : Nat) (o2 : List (Nat × Obj)), v = .agg #[.slice ad1 (lstT (madP T) n).length c1, .slice ad2 (lstT (madW T) n).length c2] ∧
    GrowO 15 62 (.slice ad1 (lstT (madP T) n).length c1) (lstT (madP T) n).length (cellsOf encP (lstT (madP T) n)) o1 ∧ GrowO 5 52 (.slice ad2 (lstT (madW T) n).length c2) (lstT (madW T) n).length (cellsOf encQ (lstT (madW T) n)) o2 ∧ σ' = o1 ++ (o2 ++ σ) ∧ Φ' = Φ

theorem C_madeM (ad : Option Addr) (c : Nat) (l : List ((Int × Int) × (Int × Int) × (Int × Int))) (σ : List (Nat × Obj)) (Φf : List SPred) (hok : ∀ q ∈ flW l, OkQ q) (hn : l.length ≤ 1000) : CtrM Tryz.prog 21 [.slice ad l.length c] σ (Row ad (cellsOf encQ2 (flW l)) :: Φf) (PostMadeM (flW l) l.length σ (Row ad (cellsOf encQ2 (flW l)) :: Φf)) := by
  refine fn_introM Tryz.func21 rfl Tryz.ntmps21 nb ?_
  intro S w0 a w hS h
  have hfl := flW_len l
  refine gC h (zs (zr (zz Tryz.zeroValue58 fun b2 => zn (zs (zr (zz Tryz.zeroValue58 fun b3 => zn (zs (zs (zr (za rfl (zn (zb ?_)))))))))))); clear h; intro a w h
  refine wp_loop_inv (fun (i : Nat) a w => i ≤ l.length ∧ ∃ (ad1 : Option Addr) (c1 : Nat) (o1 : List (Nat × Obj)) (ad2 : Option Addr) (c2 : Nat) (o2 : List (Nat × Obj)), (GrowO 15 62 (.slice ad1 (lstT (madP (flW l)) i).length c1) (lstT (madP (flW l)) i).length (cellsOf encP (lstT (madP (flW l)) i)) o1 ∧ GrowO 5 52 (.slice ad2 (lstT (madW (flW l)) i).length c2) (lstT (madW (flW l)) i).length (cellsOf encQ (lstT (madW (flW l)) i)) o2) ∧ St 50 S w0 [(0, .slice ad l.length c), (2, .pointer (some ⟨b2, 0, none⟩)), (3, .pointer (some ⟨b3, 0, none⟩)), (4, .int .i64 ((i : Nat) : Int))] (o2 ++ (o1 ++ ((b3, .cells (Value.cells (.agg #[(.slice ad1 (lstT (madP (flW l)) i).length c1), (.slice ad2 (lstT (madW (flW l)) i).length c2)])) 58 (0, 0)) :: ((b2, .cells (Value.cells (.agg #[.slice none 0 0, .slice none 0 0])) 58 (0, 0)) :: σ)))) (Row ad (cellsOf encQ2 (flW l)) :: Φf) a w) (fun i => l.length - i) 0 (⟨Nat.zero_le _, none, 0, [], none, 0, [], ⟨GrowO.nil _ _, GrowO.nil _ _⟩, by exact (h).sub (subL ⟨rfl, rfl, rfl, rfl, trivial⟩)⟩) ?_; clear h
  rintro i a w ⟨hi_i, ad1, c1, o1, ad2, c2, o2, ⟨hG1, hG2⟩, h⟩
  refine gC h (zs (zs (zr (zm rfl (zm rfl (zp (.builtin [_] rfl (len_slice_40 _ _ _)) (zp (.lss rfl rfl) (zn ?_)))))))); clear h; intro a w h
  change Code.wp _ _ _ _ _
  refine cond_split h rfl (fun hc10 => ?_) (fun hc10 => ?_)
  · skip
    have hlt_i : i < l.length := by have := of_decide_eq_true hc10; omega
    obtain ⟨B_ad, O_ad, rfl⟩ := h.row_addr (ad := ad) (M := cellsOf encQ2 (flW l)) mm (by intro e; have := congrArg List.length e; rw [cellsOf_length (k := 2) (fun _ => rfl)] at this; simp only [List.length_nil, Nat.mul_eq_zero] at this; omega)
    obtain ⟨hq0a, hq0b, hq0c, hq0d⟩ := hok _ (getD_mem (flW l) (i := 3 * i + 0) (d := (0, 0)) (by omega))
    obtain ⟨hq1a, hq1b, hq1c, hq1d⟩ := hok _ (getD_mem (flW l) (i := 3 * i + 1) (d := (0, 0)) (by omega))
    obtain ⟨hq2a, hq2b, hq2c, hq2d⟩ := hok _ (getD_mem (flW l) (i := 3 * i + 2) (d := (0, 0)) (by omega))
    have hg1 := lstT_len (madP (flW l)) i
    have hg2 := lstT_len (madW (flW l)) i
    refine gC h (zk (zs (zb (zs (yD mixed_YtkhnecelhpnaoaaGreatDoor [0, 1, 2, 3, 4, 6, 7, 8, 9, 10, 5, 11, 12, 13, 14, 15] (floatsOK_of ⟨.inl rfl, .inl rfl, .inl rfl, .inl rfl, .inl rfl, .inl rfl, .inl rfl, .inl rfl, .inl rfl, .inl rfl, .inl rfl, .inl rfl, .inr ⟨5, 52, _, _, _, rfl, rfl, by decide, _, zeroQ⟩, .inr ⟨6, 52, _, _, _, rfl, rfl, by decide, _, zeroQ⟩, .inl rfl, .inl rfl, trivial⟩) (yp rfl (.move rfl) (yp rfl (.move rfl) (yp rfl (.indexAddr rfl rfl (ix_40 _ _ _ _ _ (by omega))) (yp rfl (Pure1.cast (v' := .pointer (some ⟨B_ad, O_ad + (3 * i + 0) * 2, none⟩)) (.fieldAddr rfl (fa_73_0 _ _)) (by rw [show O_ad + i * 6 + 0 = O_ad + (3 * i + 0) * 2 by omega])) ?_))))))))); clear h
    refine head_loadRow rfl (by kernel_rfl) rfl mm (cells_lt (k := 2) (by decide) (fun _ => rfl) (flW l) (3 * i + 0) (by omega)) Tryz.isAgg24 Tryz.sizeOf24 (read_cells (k := 2) (fun _ => rfl) ((fun _ => rfl)) (flW l) (0, 0) (3 * i + 0) (by omega)) (.inl rfl) (by decide) ?_
    refine yp rfl (.move rfl) (yp rfl (.move rfl) (yp rfl (.indexAddr rfl rfl (ix_40 _ _ _ _ _ (by omega))) (yp rfl (Pure1.cast (v' := .pointer (some ⟨B_ad, O_ad + (3 * i + 1) * 2, none⟩)) (.fieldAddr rfl (fa_73_1 _ _)) (by rw [show O_ad + i * 6 + 2 = O_ad + (3 * i + 1) * 2 by omega])) ?_)))
    refine head_loadRow rfl (by kernel_rfl) rfl mm (cells_lt (k := 2) (by decide) (fun _ => rfl) (flW l) (3 * i + 1) (by omega)) Tryz.isAgg24 Tryz.sizeOf24 (read_cells (k := 2) (fun _ => rfl) ((fun _ => rfl)) (flW l) (0, 0) (3 * i + 1) (by omega)) (.inl rfl) (by decide) ?_
    refine yv [_] rfl rfl Tryz.call23 (C_qOf (((flW l).getD (3 * i + 0) (0, 0)).1) (((flW l).getD (3 * i + 0) (0, 0)).2) (by omega) (by omega) (by omega) (by omega)) ?_
    have hl18 := lenQ_qv (((flW l).getD (3 * i + 0) (0, 0)).1) (((flW l).getD (3 * i + 0) (0, 0)).2) (by omega) (by omega) (by omega) (by omega)
    refine yv [_] rfl rfl Tryz.call23 (C_qOf (((flW l).getD (3 * i + 1) (0, 0)).1) (((flW l).getD (3 * i + 1) (0, 0)).2) (by omega) (by omega) (by omega) (by omega)) ?_
    have hl24 := lenQ_qv (((flW l).getD (3 * i + 1) (0, 0)).1) (((flW l).getD (3 * i + 1) (0, 0)).2) (by omega) (by omega) (by omega) (by omega)
    refine yz rfl zeroQ fun b5 => yz rfl zeroQ fun b6 => yt rfl rfl rfl (st_5_0_5 _ _ _ _ _ _ _ _ _ _) uu Tryz.sizeOf52 rfl nb rfl ?_
    refine yt rfl rfl rfl (st_5_0_5 _ _ _ _ _ _ _ _ _ _) uu Tryz.sizeOf52 rfl nb rfl ?_
    refine yn (zs (yD mixed_YtkhnecelhpnaoaaGreatDoor [0, 1, 2, 3, 5, 7, 4, 6, 8, 9, 10, 11, 12, 13] (floatsOK_none (by kernel_rfl)) (yp rfl (.fieldAddr rfl (fa_58_0 _ _)) (yd rfl rfl mr Tryz.isAgg55 Tryz.sizeOf55 (rs_2_0 _ _) ?_))))
    refine yd rfl rfl mr Tryz.isAgg52 Tryz.sizeOf52 (rd_5_0_5 _ _ _ _ _) ?_
    refine yd rfl rfl mr Tryz.isAgg52 Tryz.sizeOf52 (rd_5_0_5 _ _ _ _ _) ?_
    refine yd rfl rfl mr Tryz.isAgg52 Tryz.sizeOf52 (rd_5_0_5 _ _ _ _ _) ?_
    refine yd rfl rfl mr Tryz.isAgg52 Tryz.sizeOf52 (rd_5_0_5 _ _ _ _ _) ?_
    refine yv [_] rfl rfl Tryz.call28 (C_QInt _ (by omega) (by omega)) ?_
    have hl29 := lenQ_int (1) (by omega) (by omega)
    refine yv [_, _] rfl rfl Tryz.call58 (C_QSub _ _ (by omega) (by omega)) ?_
    have hl31 := lenQ_sub (((1 : Int) : Rat)) (qv (((flW l).getD (3 * i + 0) (0, 0)).1) (((flW l).getD (3 * i + 0) (0, 0)).2))
    refine yv [_, _] rfl rfl Tryz.call58 (C_QSub _ _ (by omega) (by omega)) ?_
    have hl33 := lenQ_sub ((((1 : Int) : Rat)) - (qv (((flW l).getD (3 * i + 0) (0, 0)).1) (((flW l).getD (3 * i + 0) (0, 0)).2))) (qv (((flW l).getD (3 * i + 1) (0, 0)).1) (((flW l).getD (3 * i + 1) (0, 0)).2))
    refine yp rfl (.build [(_, _), (_, _), (_, _)] rfl (bd_62_0_1_2 _ _ _ _ _ _ _ _ _ _ _ _ _ _ _)) (yB rfl [(_, _)] rfl (bs_55_1_0 _ _ _ _ _ _ _ _ _ _ _ _ _ _ _) fun b35 => ?_)
    refine head_appendO (σr := ((b6, .cells (Value.cells (encQ (qv (((flW l).getD (3 * i + 1) (0, 0)).1) (((flW l).getD (3 * i + 1) (0, 0)).2)))) 52 (0, 0)) :: ((b5, .cells (Value.cells (encQ (qv (((flW l).getD (3 * i + 0) (0, 0)).1) (((flW l).getD (3 * i + 0) (0, 0)).2)))) 52 (0, 0)) :: (o2 ++ ((b3, .cells (Value.cells (.agg #[(.slice ad1 (lstT (madP (flW l)) i).length c1), (.slice ad2 (lstT (madW (flW l)) i).length c2)])) 58 (0, 0)) :: ((b2, .cells (Value.cells (.agg #[.slice none 0 0, .slice none 0 0])) 58 (0, 0)) :: σ)))))) rfl (by kernel_rfl) rfl rfl (List.Perm.trans (List.Perm.refl _) (List.Perm.cons _ (pm_ca (pm_ca (pm_aa (List.Perm.refl _)))))) hG1 Tryz.runUnderlying55 Tryz.runUnderlying55 Tryz.typeInfo62 Tryz.sizeOf62 zeroP rfl (by decide) (by decide) rfl rfl (by decide) (by show 168 * (2 * ((lstT (madP (flW l)) i).length + 1) + 192) ≤ 281474976710656; omega) (by decide) ?_
    intro v36 o36 hG36
    obtain ⟨ad36, c36, rfl⟩ := hG36.is
    have hLn36 : (lstT (madP (flW l)) i).length + 1 = ((lstT (madP (flW l)) i) ++ [(qv (((flW l).getD (3 * i + 0) (0, 0)).1) (((flW l).getD (3 * i + 0) (0, 0)).2), qv (((flW l).getD (3 * i + 1) (0, 0)).1) (((flW l).getD (3 * i + 1) (0, 0)).2), ((((1 : Int) : Rat)) - (qv (((flW l).getD (3 * i + 0) (0, 0)).1) (((flW l).getD (3 * i + 0) (0, 0)).2))) - (qv (((flW l).getD (3 * i + 1) (0, 0)).1) (((flW l).getD (3 * i + 1) (0, 0)).2)))]).length := by simp only [List.length_append, List.length_cons, List.length_nil, Nat.zero_add]
    rw [hLn36]; rw [hLn36] at hG36
    replace hG36 : GrowO 15 62 (.slice ad36 ((lstT (madP (flW l)) i) ++ [(qv (((flW l).getD (3 * i + 0) (0, 0)).1) (((flW l).getD (3 * i + 0) (0, 0)).2), qv (((flW l).getD (3 * i + 1) (0, 0)).1) (((flW l).getD (3 * i + 1) (0, 0)).2), ((((1 : Int) : Rat)) - (qv (((flW l).getD (3 * i + 0) (0, 0)).1) (((flW l).getD (3 * i + 0) (0, 0)).2))) - (qv (((flW l).getD (3 * i + 1) (0, 0)).1) (((flW l).getD (3 * i + 1) (0, 0)).2)))]).length c36) ((lstT (madP (flW l)) i) ++ [(qv (((flW l).getD (3 * i + 0) (0, 0)).1) (((flW l).getD (3 * i + 0) (0, 0)).2), qv (((flW l).getD (3 * i + 1) (0, 0)).1) (((flW l).getD (3 * i + 1) (0, 0)).2), ((((1 : Int) : Rat)) - (qv (((flW l).getD (3 * i + 0) (0, 0)).1) (((flW l).getD (3 * i + 0) (0, 0)).2))) - (qv (((flW l).getD (3 * i + 1) (0, 0)).1) (((flW l).getD (3 * i + 1) (0, 0)).2)))]).length (cellsOf encP ((lstT (madP (flW l)) i) ++ [(qv (((flW l).getD (3 * i + 0) (0, 0)).1) (((flW l).getD (3 * i + 0) (0, 0)).2), qv (((flW l).getD (3 * i + 1) (0, 0)).1) (((flW l).getD (3 * i + 1) (0, 0)).2), ((((1 : Int) : Rat)) - (qv (((flW l).getD (3 * i + 0) (0, 0)).1) (((flW l).getD (3 * i + 0) (0, 0)).2))) - (qv (((flW l).getD (3 * i + 1) (0, 0)).1) (((flW l).getD (3 * i + 1) (0, 0)).2)))])) o36 := by rw [cellsOf_append, cellsOf_one]; exact hG36
    refine yp rfl (.fieldAddr rfl (fa_58_0 _ _)) (yt rfl rfl rfl (st_2_0_1 _ _ _) uu Tryz.sizeOf55 rfl nb (by show ((flat ((.slice ad36 ((lstT (madP (flW l)) i) ++ [(qv (((flW l).getD (3 * i + 0) (0, 0)).1) (((flW l).getD (3 * i + 0) (0, 0)).2), qv (((flW l).getD (3 * i + 1) (0, 0)).1) (((flW l).getD (3 * i + 1) (0, 0)).2), ((((1 : Int) : Rat)) - (qv (((flW l).getD (3 * i + 0) (0, 0)).1) (((flW l).getD (3 * i + 0) (0, 0)).2))) - (qv (((flW l).getD (3 * i + 1) (0, 0)).1) (((flW l).getD (3 * i + 1) (0, 0)).2)))]).length c36)) && true)) = true; simp only [GrowO.flat (hG36)]; rfl) ?_)
    refine yn (yD mixed_YtkhnecelhpnaoaaGreatDoor [0, 1, 2, 3, 4, 5, 6, 7, 8, 9, 10, 11] (floatsOK_none (by kernel_rfl)) (yp rfl (.fieldAddr rfl (fa_58_1 _ _)) (yd rfl rfl mr Tryz.isAgg56 Tryz.sizeOf56 (rs_2_1 _ _) ?_)))
    refine yp rfl (.move rfl) (yp rfl (.move rfl) (yp rfl (.indexAddr rfl rfl (ix_40 _ _ _ _ _ (by omega))) (yp rfl (Pure1.cast (v' := .pointer (some ⟨B_ad, O_ad + (3 * i + 2) * 2, none⟩)) (.fieldAddr rfl (fa_73_2 _ _)) (by rw [show O_ad + i * 6 + 4 = O_ad + (3 * i + 2) * 2 by omega])) ?_)))
    refine head_loadRow rfl (by kernel_rfl) rfl mm (cells_lt (k := 2) (by decide) (fun _ => rfl) (flW l) (3 * i + 2) (by omega)) Tryz.isAgg24 Tryz.sizeOf24 (read_cells (k := 2) (fun _ => rfl) ((fun _ => rfl)) (flW l) (0, 0) (3 * i + 2) (by omega)) (.inl rfl) (by decide) ?_
    refine yv [_] rfl rfl Tryz.call23 (C_qOf (((flW l).getD (3 * i + 2) (0, 0)).1) (((flW l).getD (3 * i + 2) (0, 0)).2) (by omega) (by omega) (by omega) (by omega)) ?_
    have hl45 := lenQ_qv (((flW l).getD (3 * i + 2) (0, 0)).1) (((flW l).getD (3 * i + 2) (0, 0)).2) (by omega) (by omega) (by omega) (by omega)
    refine yB rfl [(_, _)] rfl (bs_56_1_0 _ _ _ _ _) fun b46 => ?_
    refine head_appendO (σr := (o36 ++ ((b6, .cells (Value.cells (encQ (qv (((flW l).getD (3 * i + 1) (0, 0)).1) (((flW l).getD (3 * i + 1) (0, 0)).2)))) 52 (0, 0)) :: ((b5, .cells (Value.cells (encQ (qv (((flW l).getD (3 * i + 0) (0, 0)).1) (((flW l).getD (3 * i + 0) (0, 0)).2)))) 52 (0, 0)) :: ((b3, .cells (Value.cells (.agg #[(.slice ad36 ((lstT (madP (flW l)) i) ++ [(qv (((flW l).getD (3 * i + 0) (0, 0)).1) (((flW l).getD (3 * i + 0) (0, 0)).2), qv (((flW l).getD (3 * i + 1) (0, 0)).1) (((flW l).getD (3 * i + 1) (0, 0)).2), ((((1 : Int) : Rat)) - (qv (((flW l).getD (3 * i + 0) (0, 0)).1) (((flW l).getD (3 * i + 0) (0, 0)).2))) - (qv (((flW l).getD (3 * i + 1) (0, 0)).1) (((flW l).getD (3 * i + 1) (0, 0)).2)))]).length c36), (.slice ad2 (lstT (madW (flW l)) i).length c2)])) 58 (0, 0)) :: ((b2, .cells (Value.cells (.agg #[.slice none 0 0, .slice none 0 0])) 58 (0, 0)) :: σ)))))) rfl (by kernel_rfl) rfl rfl (List.Perm.trans (List.Perm.refl _) (List.Perm.cons _ (pm_aa (pm_ca (pm_ca (List.Perm.refl _)))))) hG2 Tryz.runUnderlying56 Tryz.runUnderlying56 Tryz.typeInfo52 Tryz.sizeOf52 zeroQ rfl (by decide) (by decide) rfl rfl (by decide) (by show 56 * (2 * ((lstT (madW (flW l)) i).length + 1) + 192) ≤ 281474976710656; omega) (by decide) ?_
    intro v47 o47 hG47
    obtain ⟨ad47, c47, rfl⟩ := hG47.is
    have hLn47 : (lstT (madW (flW l)) i).length + 1 = ((lstT (madW (flW l)) i) ++ [qv (((flW l).getD (3 * i + 2) (0, 0)).1) (((flW l).getD (3 * i + 2) (0, 0)).2)]).length := by simp only [List.length_append, List.length_cons, List.length_nil, Nat.zero_add]
    rw [hLn47]; rw [hLn47] at hG47
    replace hG47 : GrowO 5 52 (.slice ad47 ((lstT (madW (flW l)) i) ++ [qv (((flW l).getD (3 * i + 2) (0, 0)).1) (((flW l).getD (3 * i + 2) (0, 0)).2)]).length c47) ((lstT (madW (flW l)) i) ++ [qv (((flW l).getD (3 * i + 2) (0, 0)).1) (((flW l).getD (3 * i + 2) (0, 0)).2)]).length (cellsOf encQ ((lstT (madW (flW l)) i) ++ [qv (((flW l).getD (3 * i + 2) (0, 0)).1) (((flW l).getD (3 * i + 2) (0, 0)).2)])) o47 := by rw [cellsOf_append, cellsOf_one]; exact hG47
    refine yp rfl (.fieldAddr rfl (fa_58_1 _ _)) (yt rfl rfl rfl (st_2_1_1 _ _ _) uu Tryz.sizeOf56 rfl nb (by show ((flat ((.slice ad47 ((lstT (madW (flW l)) i) ++ [qv (((flW l).getD (3 * i + 2) (0, 0)).1) (((flW l).getD (3 * i + 2) (0, 0)).2)]).length c47)) && true)) = true; simp only [GrowO.flat (hG47)]; rfl) ?_)
    refine yn (zr (zm rfl (zp (Pure1.cast (v' := (.int .i64 ((i + 1 : Nat) : Int))) (.add rfl rfl) (by show Value.int _ _ = Value.int _ _; congr 1)) (za rfl (zn ?_))))); intro a w h
    exact ⟨i + 1, ⟨by omega, ad36, c36, o36, ad47, c47, o47, ⟨hG36, hG47⟩, by exact (((h.perm (List.Perm.trans (pm_ac (pm_ac (List.Perm.refl _))) (List.Perm.cons _ (List.Perm.trans (pm_ac (pm_ac (List.Perm.refl _))) (List.Perm.cons _ (List.Perm.refl _))))).symm).drop (by repeat (first | exact List.Sublist.refl _ | apply List.Sublist.cons))).factsSub (by exact (fun _ hR => by repeat (first | exact hR | apply List.Mem.tail)))).sub sA⟩, by omega⟩
  · skip
    have heq_i : l.length = i := by have := of_decide_eq_false hc10; omega
    subst heq_i
    refine gC h (ze (zs (zr (zd rfl mr Tryz.isAgg58 Tryz.sizeOf58 (rd_2_0_2 _ _) ?_)))); clear h; intro a w h
    refine gL h (zt' rfl rfl (st_2_0_2 _ _ _ _) uu Tryz.sizeOf58 rfl nb (by show ((flat ((.slice ad1 (lstT (madP (flW l)) l.length).length c1)) && (flat ((.slice ad2 (lstT (madW (flW l)) l.length).length c2)) && true))) = true; simp only [GrowO.flat (hG1), GrowO.flat (hG2)]; rfl) ?_); clear h; intro a w h
    refine wpList_nil (wp_ret ?_)
    replace h := h.perm (pm_aa (List.Perm.refl _)).symm
    refine endM h (results1 h rfl (.cell rfl mr Tryz.isAgg58 Tryz.sizeOf58 (rd_2_0_2 _ _))) ⟨ad1, c1, o1, ad2, c2, o2, rfl, hG1, hG2, rfl, rfl⟩ (List.Sublist.append_left (List.Sublist.append_left (by repeat (first | exact List.Sublist.refl _ | apply List.Sublist.cons)) _) _) (fun _ hR => hR)

theorem C_Check_ne (ad1 ad2 : Option Addr) (n1 n2 c1 c2 : Nat) (hne : n1 ≠ n2) : CtrV Tryz.prog 25 [.agg #[.slice ad1 n1 c1, .slice ad2 n2 c2]] (.int .i64 1) := by
  refine fn_intro Tryz.func25 rfl Tryz.ntmps25 nb ?_
  intro S w0 a hS h
  refine gC h (zs (zr (zx rfl fun b1 => za rfl (zn (zs (zs (zr (zp (.fieldAddr rfl (fa_58_0 _ _)) (zd rfl mr Tryz.isAgg55 Tryz.sizeOf55 (rs_2_0 _ _) ?_))))))))); clear h; intro a w h
  refine gL h (zp (.builtin [_] rfl (len_slice_55 _ _ _)) (zp (.fieldAddr rfl (fa_58_1 _ _)) (zd rfl mr Tryz.isAgg56 Tryz.sizeOf56 (rs_2_1 _ _) ?_))); clear h; intro a w h
  refine gL h (zp (.builtin [_] rfl (len_slice_56 _ _ _)) (zp (.neq rfl rfl) ?_)); clear h; intro a w h
  refine by_bool h (fun hc11 h => ?_) (fun hc11 h => (by exfalso; exact hne (natEq hc11)))
  refine wpList_nil ?_
  change Code.wp _ _ _ _ _
  refine cond_true h rfl ?_
  refine gC h (zs (zr (za rfl (zn (zt ?_))))); clear h; intro a w h
  refine retV h (results1 h rfl (.tmp rfl)) ?_
  rfl

theorem C_Exact_ne (ad1 ad2 : Option Addr) (n1 n2 c1 c2 : Nat) (hne : n1 ≠ n2) : CtrV Tryz.prog 26 [.agg #[.slice ad1 n1 c1, .slice ad2 n2 c2]] (.int .i64 (-1)) := by
  refine fn_intro Tryz.func26 rfl Tryz.ntmps26 nb ?_
  intro S w0 a hS h
  refine gC h (zs (zr (zx rfl fun b1 => za rfl (zn (zc (zs (zs (zr (zd rfl mr Tryz.isAgg58 Tryz.sizeOf58 (rd_2_0_2 _ _) ?_))))))))); clear h; intro a w h
  refine gL h (zv [_] rfl Tryz.call25 (C_Check_ne ad1 ad2 n1 n2 c1 c2 hne) (zp (.neq rfl rfl) (zn ?_))); clear h; intro a w h
  change Code.wp _ _ _ _ _
  refine cond_split h rfl (fun hc13 => ?_) (fun hc13 => (by exfalso; exact absurd hc13 (by decide)))
  refine gC h (zs (zr (za rfl (zn (zt ?_))))); clear h; intro a w h
  refine retV h (results1 h rfl (.tmp rfl)) ?_
  rfl

theorem C_Apply_ne (ad1 ad2 : Option Addr) (n1 n2 c1 c2 : Nat) (hne : n1 ≠ n2) (ad : Option Addr) (np cp : Nat) (pa pb pc : Pt) : CtrV Tryz.prog 27 [.agg #[.slice ad1 n1 c1, .slice ad2 n2 c2], .slice ad np cp, encPt pa, encPt pb, encPt pc] (encQ 0) := by
  refine fn_intro Tryz.func27 rfl Tryz.ntmps27 nb ?_
  intro S w0 a hS h
  refine gC h (zs (zr (zx rfl fun b5 => zx rfl fun b7 => zx rfl fun b8 => zx rfl fun b9 => zz zeroQ fun b10 => zn (zs (zs (zr (zd rfl mr Tryz.isAgg58 Tryz.sizeOf58 (rd_2_0_2 _ _) ?_))))))); clear h; intro a w h
  refine gL h (zv [_] rfl Tryz.call25 (C_Check_ne ad1 ad2 n1 n2 c1 c2 hne) (zp (.neq rfl rfl) ?_)); clear h; intro a w h
  refine by_bool h (fun hc17 h => ?_) (fun hc17 h => (by exfalso; exact absurd hc17 (by decide)))
  refine wpList_nil ?_
  change Code.wp _ _ _ _ _
  refine cond_true h rfl ?_
  refine gC h (zs (zr (zd rfl mr Tryz.isAgg52 Tryz.sizeOf52 (rd_5_0_5 _ _ _ _ _) ?_))); clear h; intro a w h
  refine gL h (zt' rfl rfl (st_5_0_5 _ _ _ _ _ _ _ _ _ _) uu Tryz.sizeOf52 rfl nb rfl ?_); clear h; intro a w h
  refine wpList_nil (wp_ret ?_)
  refine retV h (results1 h rfl (.cell rfl mr Tryz.isAgg52 Tryz.sizeOf52 (rd_5_0_5 _ _ _ _ _))) ?_
  rfl

theorem C_ApplyLine_ne (ad1 ad2 : Option Addr) (n1 n2 c1 c2 : Nat) (hne : n1 ≠ n2) (ad : Option Addr) (np cp : Nat) (pa pb : Pt) : CtrV Tryz.prog 29 [.agg #[.slice ad1 n1 c1, .slice ad2 n2 c2], .slice ad np cp, encPt pa, encPt pb] (encQ 0) := by
  refine fn_intro Tryz.func29 rfl Tryz.ntmps29 nb ?_
  intro S w0 a hS h
  refine gC h (zs (zr (zx rfl fun b4 => zx rfl fun b6 => zx rfl fun b7 => zz zeroQ fun b8 => zn (zs (zs (zr (zp (.fieldAddr rfl (fa_71_0 _ _)) (zd rfl mr Tryz.isAgg56 Tryz.sizeOf56 (rs_2_0 _ _) ?_)))))))); clear h; intro a w h
  refine gL h (zp (.builtin [_] rfl (len_slice_56 _ _ _)) (zp (.fieldAddr rfl (fa_71_1 _ _)) (zd rfl mr Tryz.isAgg56 Tryz.sizeOf56 (rs_2_1 _ _) ?_))); clear h; intro a w h
  refine gL h (zp (.builtin [_] rfl (len_slice_56 _ _ _)) (zp (.neq rfl rfl) ?_)); clear h; intro a w h
  refine by_bool h (fun hc19 h => ?_) (fun hc19 h => (by exfalso; exact hne (natEq hc19)))
  refine wpList_nil ?_
  change Code.wp _ _ _ _ _
  refine cond_true h rfl ?_
  refine gC h (zs (zr (zd rfl mr Tryz.isAgg52 Tryz.sizeOf52 (rd_5_0_5 _ _ _ _ _) ?_))); clear h; intro a w h
  refine gL h (zt' rfl rfl (st_5_0_5 _ _ _ _ _ _ _ _ _ _) uu Tryz.sizeOf52 rfl nb rfl ?_); clear h; intro a w h
  refine wpList_nil (wp_ret ?_)
  refine retV h (results1 h rfl (.cell rfl mr Tryz.isAgg52 Tryz.sizeOf52 (rd_5_0_5 _ _ _ _ _))) ?_
  rfl

theorem C_ExactLine_ne (ad1 ad2 : Option Addr) (n1 n2 c1 c2 : Nat) (hne : n1 ≠ n2) : CtrV Tryz.prog 30 [.agg #[.slice ad1 n1 c1, .slice ad2 n2 c2]] (.int .i64 (-1)) := by
  refine fn_intro Tryz.func30 rfl Tryz.ntmps30 nb ?_
  intro S w0 a hS h
  refine gC h (zs (zr (zx rfl fun b1 => za rfl (zn (zs (zs (zr (zp (.fieldAddr rfl (fa_71_0 _ _)) (zd rfl mr Tryz.isAgg56 Tryz.sizeOf56 (rs_2_0 _ _) ?_))))))))); clear h; intro a w h
  refine gL h (zp (.builtin [_] rfl (len_slice_56 _ _ _)) (zp (.fieldAddr rfl (fa_71_1 _ _)) (zd rfl mr Tryz.isAgg56 Tryz.sizeOf56 (rs_2_1 _ _) ?_))); clear h; intro a w h
  refine gL h (zp (.builtin [_] rfl (len_slice_56 _ _ _)) (zp (.neq rfl rfl) ?_)); clear h; intro a w h
  refine by_bool h (fun hc13 h => ?_) (fun hc13 h => (by exfalso; exact hne (natEq hc13)))
  refine wpList_nil ?_
  change Code.wp _ _ _ _ _
  refine cond_true h rfl ?_
  refine gC h (zs (zr (za rfl (zn (zt ?_))))); clear h; intro a w h
  refine retV h (results1 h rfl (.tmp rfl)) ?_
  rfl

theorem C_Exact_bad (ad1 ad2 : Option Addr) (c1 c2 : Nat) (ps : List (Rat × Rat × Rat)) (ws : List Rat) (hnp : ps.length ≤ 1000) (hnw : ws.length ≤ 1000) (hps : ∀ p ∈ ps, lenQ p.1 ≤ 1000 ∧ lenQ p.2.1 ≤ 1000 ∧ lenQ p.2.2 ≤ 1000) (hv : checkI ps ws ≠ 0) : CtrW Tryz.prog 26 [.agg #[.slice ad1 ps.length c1, .slice ad2 ws.length c2]] [Row ad1 (cellsOf encP ps), Row ad2 (cellsOf encQ ws)] (.int .i64 (-1)) := by
  refine fn_intro Tryz.func26 rfl Tryz.ntmps26 nb ?_
  intro S w0 a hS h
  refine gC h (zs (zr (zx rfl fun b1 => za rfl (zn (zc (zs (zs (zr (zd rfl mr Tryz.isAgg58 Tryz.sizeOf58 (rd_2_0_2 _ _) ?_))))))))); clear h; intro a w h
  refine gL h (zw [_] rfl Tryz.call25 (C_Check ad1 ad2 c1 c2 ps ws hnp hnw hps) (zp (.neq rfl rfl) (zn ?_))); clear h; intro a w h
  change Code.wp _ _ _ _ _
  refine cond_split h rfl (fun hc13 => ?_) (fun hc13 => (by exfalso; exact hv (by simpa using hc13)))
  refine gC h (zs (zr (za rfl (zn (zt ?_))))); clear h; intro a w h
  refine retV h (results1 h rfl (.tmp rfl)) ?_
  rfl

theorem C_Apply_bad (ad1 ad2 : Option Addr) (c1 c2 : Nat) (ps : List (Rat × Rat × Rat)) (ws : List Rat) (hnp : ps.length ≤ 1000) (hnw : ws.length ≤ 1000) (hps : ∀ p ∈ ps, lenQ p.1 ≤ 1000 ∧ lenQ p.2.1 ≤ 1000 ∧ lenQ p.2.2 ≤ 1000) (hv : checkI ps ws ≠ 0) (ad : Option Addr) (np cp : Nat) (pa pb pc : Pt) : CtrW Tryz.prog 27 [.agg #[.slice ad1 ps.length c1, .slice ad2 ws.length c2], .slice ad np cp, encPt pa, encPt pb, encPt pc] [Row ad1 (cellsOf encP ps), Row ad2 (cellsOf encQ ws)] (encQ 0) := by
  refine fn_intro Tryz.func27 rfl Tryz.ntmps27 nb ?_
  intro S w0 a hS h
  refine gC h (zs (zr (zx rfl fun b5 => zx rfl fun b7 => zx rfl fun b8 => zx rfl fun b9 => zz zeroQ fun b10 => zn (zs (zs (zr (zd rfl mr Tryz.isAgg58 Tryz.sizeOf58 (rd_2_0_2 _ _) ?_))))))); clear h; intro a w h
  refine gL h (zw [_] rfl Tryz.call25 (C_Check ad1 ad2 c1 c2 ps ws hnp hnw hps) (zp (.neq rfl rfl) ?_)); clear h; intro a w h
  refine by_bool h (fun hc17 h => ?_) (fun hc17 h => (by exfalso; exact hv (by simpa using hc17)))
  refine wpList_nil ?_
  change Code.wp _ _ _ _ _
  refine cond_true h rfl ?_
  refine gC h (zs (zr (zd rfl mr Tryz.isAgg52 Tryz.sizeOf52 (rd_5_0_5 _ _ _ _ _) ?_))); clear h; intro a w h
  refine gL h (zt' rfl rfl (st_5_0_5 _ _ _ _ _ _ _ _ _ _) uu Tryz.sizeOf52 rfl nb rfl ?_); clear h; intro a w h
  refine wpList_nil (wp_ret ?_)
  refine retV h (results1 h rfl (.cell rfl mr Tryz.isAgg52 Tryz.sizeOf52 (rd_5_0_5 _ _ _ _ _))) ?_
  rfl
end Go.Proofs.YtkhnecelhpnaoaaGreatDoor
