/- Written by a program of ours (gen.py) out of short specifications. By an AI agent. -/
import Derived.Test.YtfmbhcnanphckaaGreatDoorRef6
import Derived.Test.YtfmbhcnanphckaaGreatDoorFxZ
set_option linter.unusedVariables false
set_option linter.unusedSimpArgs false
set_option maxRecDepth 4000
namespace Go.Proofs.YtfmbhcnanphckaaGreatDoor
open Go Go.Proofs Go.Fx
attribute [local irreducible] Oper.wp Code.wp wpList Fx.Head wpOp
theorem len_slice_115 (a : Option Addr) (n c : Nat) (w : World) (ty : TypeId) (cs : Array Bool) : (Go.builtin .len #[115] ty cs #[.slice a n c]).run Tryz.prog w = .ok (.value (.int .i64 n)) w := by
  simp [go_sem]
theorem ix_115 (b off n c j : Nat) (h : j < n) (w : World) : (Instr.indexAt 115 (.slice (some ⟨b, off, none⟩) n c) (.int .i64 (j : Int))).run Tryz.prog w = .ok (.pointer (some ⟨b, off + j, none⟩)) w := by
  simpa using indexAt_slice Tryz.runUnderlying115 Tryz.sizeOf51 b off n c j h w
theorem bs_51_1_0 (x0_0 : Value) (x0_1 : Value) (x0_2 : Value) (w : World) : (Instr.buildSlice 51 1 [(0, .agg #[x0_0, x0_1, x0_2])].toArray).run Tryz.prog w = .ok (.slice (some ⟨w.heap.size, 0, none⟩) 1 1) (w.alloc (.cells #[x0_0, x0_1, x0_2] 50 (0, 0))) := by
  simp [go_sem]
theorem C_Solve (b cap n : Nat) (R : List Value) (rows : List RT) (hn15 : n ≤ 15) (hs : Shp n (mQ rows)) (hb : Bnd (mQ rows) 4) :
    CtrM Tryz.prog 55 [.slice (some ⟨b, 0, none⟩) n cap] [(b, .cells (List.map encR (rows) ++ R).toArray 51 (0, 0))] [AllR rows] (fun v σ' Ψ => ∃ ad c W, v = .slice ad W.length c ∧ W.map FT.x = solveQ n (mQ rows) ∧ σ' = [] ∧ Ψ = [Row ad (cellsOf encF W), AllF W]) := by
  refine fn_introM Tryz.func55 rfl Tryz.ntmps55 nb ?_
  intro S w0 a w hS h
  refine gC h (zs (zr (za rfl (zn (zs (zr (zm rfl (zp (.builtin [_] rfl (len_slice_115 _ _ _)) (za rfl (zn (zs (zs (zr (za rfl (zn (zb ?_)))))))))))))))); clear h; intro a w h
  refine wp_loop_inv (fun (c : Nat) a w => c ≤ n ∧ ∃ A, (mQ A = colN n (mQ rows) c) ∧ St 159 S w0 [(0, .slice (some ⟨b, 0, none⟩) n cap), (2, .slice none 0 0), (3, .int .i64 ((n : Nat) : Int)), (4, .int .i64 ((c : Nat) : Int))] [(b, .cells (List.map encR (A) ++ R).toArray 51 (0, 0))] [AllR A] a w) (fun c => n - c) 0 (⟨Nat.zero_le _, rows, rfl, by exact (h.factsSub (by simp)).sub (subL ⟨rfl, rfl, rfl, rfl, trivial⟩)⟩) ?_; clear h
  rintro c a w ⟨hi_c, A, hA, h⟩
  refine gC h (zs (zs (zr (zm rfl (zm rfl (zp (.lss rfl rfl) (zn ?_))))))); clear h; intro a w h
  change Code.wp _ _ _ _ _
  refine cond_split h rfl (fun hc17 => ?_) (fun hc17 => ?_)
  · skip
    have hlt_c : c < n := by have := of_decide_eq_true hc17; omega
    have hsA := hs.cols c (by omega)
    have hbA := hb.cols (n := n) c
    have hbn := bn_le' c (by omega)
    refine gC h (zk (zs (zb (zs (zs (zr (zm rfl (za rfl (zn (zb ?_)))))))))); clear h; intro a w h
    refine wp_loop_inv (fun (t : Nat) a w => t ≤ (n - c) ∧ ∃ B, (mQ B = pivN (colN n (mQ rows) c) c t) ∧ St 159 S w0 [(0, .slice (some ⟨b, 0, none⟩) n cap), (2, .slice none 0 0), (3, .int .i64 ((n : Nat) : Int)), (4, .int .i64 ((c : Nat) : Int)), (5, .int .i64 ((c + t : Nat) : Int)), (20, .int .i64 ((c : Nat) : Int))] [(b, .cells (List.map encR (B) ++ R).toArray 51 (0, 0))] [AllR B] a w) (fun t => (n - c) - t) 0 (⟨Nat.zero_le _, A, hA, by exact (h.factsSub (by simp)).sub (subL ⟨rfl, rfl, rfl, rfl, rfl, rfl, trivial⟩)⟩) ?_; clear h
    rintro t a w ⟨hi_t, B, hB, h⟩
    refine gC h (zs (zs (zr (zm rfl (zm rfl (zp (.lss rfl rfl) (zn ?_))))))); clear h; intro a w h
    change Code.wp _ _ _ _ _
    refine cond_split h rfl (fun hc23 => ?_) (fun hc23 => ?_)
    · skip
      have hlt_t : t < (n - c) := by have := of_decide_eq_true hc23; omega
      have hsB : Shp n (mQ B) := by rw [hB]; exact hsA.pivs t (by omega)
      have hlB := shp_len hsB
      have hrB := shp_row hsB (r := c + t) (by omega)
      have hcB := shp_row hsB (r := c) (by omega)
      have hmr : B.getD (c + t) RT0 ∈ B := getD_mem _ (by omega)
      replace h := h.derive (R := Row (B.getD (c + t) RT0).ad (cellsOf encF (B.getD (c + t) RT0).l)) (fun X hX => AllR.get1 (hX _ mm) hmr)
      obtain ⟨br, pr, hbr⟩ := h.row_addr (ad := (B.getD (c + t) RT0).ad) (M := cellsOf encF (B.getD (c + t) RT0).l) (List.Mem.head _) (by intro e; have := congrArg List.length e; rw [cellsOf_length (k := 3) (fun _ => rfl)] at this; simp only [List.length_nil, Nat.mul_eq_zero] at this; omega)
      rw [hbr] at h
      have hmc : B.getD c RT0 ∈ B := getD_mem _ (by omega)
      replace h := h.derive (R := Row (B.getD c RT0).ad (cellsOf encF (B.getD c RT0).l)) (fun X hX => AllR.get1 (hX _ mm) hmc)
      obtain ⟨bc, pc, hbc⟩ := h.row_addr (ad := (B.getD c RT0).ad) (M := cellsOf encF (B.getD c RT0).l) (List.Mem.head _) (by intro e; have := congrArg List.length e; rw [cellsOf_length (k := 3) (fun _ => rfl)] at this; simp only [List.length_nil, Nat.mul_eq_zero] at this; omega)
      rw [hbc] at h
      refine gC h (zk (zs (zb (zs (zr (zm rfl (zm rfl (zp (.indexAddr rfl rfl (ix_115 _ _ _ _ _ (by omega))) (zd rfl mm Tryz.isAgg51 Tryz.sizeOf51 ((congrArg _ (Nat.zero_add _)).trans (read_rowR (enc := encR) (l := B) RT0 (by omega))) ?_))))))))); clear h; intro a w h
      refine gL h (zm rfl (zp (.indexAddr rfl rfl (ixe _ _ _ hbr (by omega))) (zD rfl mm (cells_lt (k := 3) (by decide) (fun _ => rfl) ((B.getD (c + t) RT0).l) c (by omega)) Tryz.isAgg50 Tryz.sizeOf50 (read_cells (k := 3) (fun _ => rfl) ((fun _ => rfl)) ((B.getD (c + t) RT0).l) FT0 c (by omega)) (.inl rfl) ?_))); clear h; intro a w h
      refine gL h (zv [_] rfl Tryz.call97 (C_fSign ((((B.getD (c + t) RT0).l).getD c FT0).x) _ _ _ _) (zp (.neq rfl rfl) ?_)); clear h; intro a w h
      refine by_bool h (fun hc34 h => ?_) (fun hc34 h => ?_)
      · skip
        have h34 : gM (mQ B) (c + t) c ≠ 0 := by rw [sign_ne] at hc34; rw [gM_mQ (by omega) (by omega)]; exact of_decide_eq_true hc34
        refine gL h (zm rfl (zq 35 rfl rfl (.move rfl) (zq 35 rfl rfl (.move rfl) (zq 35 rfl rfl (.indexAddr rfl rfl (ix_115 _ _ _ _ _ (by omega))) ?_)))); clear h; intro a w h
        refine wpl_guard 35 h rfl rfl (op_load h rfl mm Tryz.isAgg51 Tryz.sizeOf51 ((congrArg _ (Nat.zero_add _)).trans (read_rowR (enc := encR) (l := B) RT0 (by omega))) (by decide) ?_); clear h; intro a h
        refine gL h (zq 35 rfl rfl (.move rfl) (zq 35 rfl rfl (.indexAddr rfl rfl (ixe _ _ _ hbc (by omega))) ?_)); clear h; intro a w h
        refine wpl_guard 35 h rfl rfl (op_loadRow h rfl mm (cells_lt (k := 3) (by decide) (fun _ => rfl) ((B.getD c RT0).l) c (by omega)) Tryz.isAgg50 Tryz.sizeOf50 (read_cells (k := 3) (fun _ => rfl) ((fun _ => rfl)) ((B.getD c RT0).l) FT0 c (by omega)) (.inl rfl) (by decide) ?_); clear h; intro a h
        refine wpl_guard 35 h rfl rfl (op_callV h (vs := [_]) rfl Tryz.call97 (C_fSign ((((B.getD c RT0).l).getD c FT0).x) _ _ _ _) (by decide) ?_); clear h; intro a w h
        refine gL h (zq 35 rfl rfl (.eql rfl rfl) ?_); clear h; intro a w h
        refine by_bool h (fun hc44 h => ?_) (fun hc44 h => ?_)
        · skip
          have hsw : gM (mQ B) (c + t) c ≠ 0 ∧ gM (mQ B) c c = 0 := ⟨h34, by rw [sign_eq] at hc44; rw [gM_mQ (by omega) (by omega)]; exact of_decide_eq_true hc44⟩
          refine gL h (zp (.pickT rfl rfl) (zn ?_)); clear h; intro a w h
          change Code.wp _ _ _ _ _
          refine cond_true h rfl ?_
          refine gC h (zs (zr (zm rfl (zm rfl (zp (.indexAddr rfl rfl (ix_115 _ _ _ _ _ (by omega))) (zd rfl mm Tryz.isAgg51 Tryz.sizeOf51 ((congrArg _ (Nat.zero_add _)).trans (read_rowR (enc := encR) (l := B) RT0 (by omega))) ?_)))))); clear h; intro a w h
          refine gL h (za rfl (zn (zs (zr (zm rfl (zm rfl (zm rfl (zm rfl (zp (.indexAddr rfl rfl (ix_115 _ _ _ _ _ (by omega))) (zd rfl mm Tryz.isAgg51 Tryz.sizeOf51 ((congrArg _ (Nat.zero_add _)).trans (read_rowR (enc := encR) (l := B) RT0 (by omega))) ?_)))))))))); clear h; intro a w h
          refine gL h (zp (.indexAddr rfl rfl (ix_115 _ _ _ _ _ (by omega))) (zt' rfl rfl ((congrArg (fun z => setFrom _ z _) (Nat.zero_add _)).trans (set_rowR (enc := encR) B R (c + t) (B.getD c RT0) (by omega))) uu Tryz.sizeOf51 rfl (by rw [List.size_toArray, List.length_append, List.length_map]; omega) rfl ?_)); clear h; intro a w h
          refine gL h (zn (zr (zm rfl (zm rfl (zm rfl (zp (.indexAddr rfl rfl (ix_115 _ _ _ _ _ (by omega))) (zt' rfl rfl ((congrArg (fun z => setFrom _ z _) (Nat.zero_add _)).trans (set_rowR (enc := encR) (B.set (c + t) (B.getD c RT0)) R c ((B.getD (c + t) RT0)) (by try rw [List.length_set]; omega))) uu Tryz.sizeOf51 rfl (by rw [List.size_toArray, List.length_append, List.length_map]; try rw [List.length_set]; omega) rfl ?_))))))); clear h; intro a w h
          refine gL h (zn (zr (zm rfl (zp (Pure1.cast (v' := (.int .i64 (((c + t) + 1 : Nat) : Int))) (.add rfl rfl) (by show Value.int _ _ = Value.int _ _; congr 1)) (za rfl (zn ?_)))))); clear h; intro a w h
          replace h := h.derive (R := AllR ((B.set (c + t) (B.getD c RT0)).set c ((B.getD (c + t) RT0)))) (fun X hX => AllR.set (AllR.set (hX _ mm) (AllR.get1 (hX _ mm) hmc) (AllR.get2 (hX _ mm) hmc)) (AllR.get1 (hX _ mm) hmr) (AllR.get2 (hX _ mm) hmr))
          exact ⟨t + 1, ⟨by omega, (B.set (c + t) (B.getD c RT0)).set c ((B.getD (c + t) RT0)), by rw [show pivN (colN n (mQ rows) c) c (t + 1) = pivF (pivN (colN n (mQ rows) c) c t) c (c + t) from rfl, ← hB, pivF, if_pos hsw, mQ_set, mQ_set, mQ_get (by omega), mQ_get (by omega)], by exact (h.factsSub (by simp)).sub sA⟩, by omega⟩
        · skip
          have hsw : ¬ (gM (mQ B) (c + t) c ≠ 0 ∧ gM (mQ B) c c = 0) := fun hh => by rw [sign_eq] at hc44; have h3 := hh.2; rw [gM_mQ (by omega) (by omega)] at h3; exact of_decide_eq_false hc44 h3
          refine gL h (zp (.pickT rfl rfl) (zn ?_)); clear h; intro a w h
          change Code.wp _ _ _ _ _
          refine cond_false h rfl ?_
          refine gC h (zk (zr (zm rfl (zp (Pure1.cast (v' := (.int .i64 (((c + t) + 1 : Nat) : Int))) (.add rfl rfl) (by show Value.int _ _ = Value.int _ _; congr 1)) (za rfl (zn ?_)))))); clear h; intro a w h
          skip
          exact ⟨t + 1, ⟨by omega, B, by rw [show pivN (colN n (mQ rows) c) c (t + 1) = pivF (pivN (colN n (mQ rows) c) c t) c (c + t) from rfl, ← hB, pivF, if_neg hsw], by exact (h.factsSub (by simp)).sub sA⟩, by omega⟩
      · skip
        have hsw : ¬ (gM (mQ B) (c + t) c ≠ 0 ∧ gM (mQ B) c c = 0) := fun hh => hh.1 (by rw [sign_ne] at hc34; rw [gM_mQ (by omega) (by omega)]; have := of_decide_eq_false hc34; exact Decidable.not_not.1 this)
        refine gL h (zm rfl (zo 35 rfl rfl rfl (zo 35 rfl rfl rfl (zo 35 rfl rfl rfl (zo 35 rfl rfl rfl (zo 35 rfl rfl rfl (zo 35 rfl rfl rfl (zo 35 rfl rfl rfl (zo 35 rfl rfl rfl (zo 35 rfl rfl rfl (zp (.pickF rfl rfl) (zn ?_)))))))))))); clear h; intro a w h
        change Code.wp _ _ _ _ _
        refine cond_false h rfl ?_
        refine gC h (zk (zr (zm rfl (zp (Pure1.cast (v' := (.int .i64 (((c + t) + 1 : Nat) : Int))) (.add rfl rfl) (by show Value.int _ _ = Value.int _ _; congr 1)) (za rfl (zn ?_)))))); clear h; intro a w h
        skip
        exact ⟨t + 1, ⟨by omega, B, by rw [show pivN (colN n (mQ rows) c) c (t + 1) = pivF (pivN (colN n (mQ rows) c) c t) c (c + t) from rfl, ← hB, pivF, if_neg hsw], by exact (h.factsSub (by simp)).sub sA⟩, by omega⟩
    · skip
      have heq_t : (n - c) = t := by have := of_decide_eq_false hc23; omega
      subst heq_t
      refine gC h (ze (zs (zr (za rfl (zn (zb ?_)))))); clear h; intro a w h
      refine wp_loop_inv (fun (r : Nat) a w => r ≤ n ∧ ∃ D, (mQ D = elN n (pivN (colN n (mQ rows) c) c (n - c)) c r) ∧ St 159 S w0 [(0, .slice (some ⟨b, 0, none⟩) n cap), (2, .slice none 0 0), (3, .int .i64 ((n : Nat) : Int)), (4, .int .i64 ((c : Nat) : Int)), (5, .int .i64 ((c + (n - c) : Nat) : Int)), (7, .int .i64 ((r : Nat) : Int)), (20, .int .i64 ((c : Nat) : Int))] [(b, .cells (List.map encR (D) ++ R).toArray 51 (0, 0))] [AllR D] a w) (fun r => n - r) 0 (⟨Nat.zero_le _, B, hB, by exact (h.factsSub (by simp)).sub (subL ⟨rfl, rfl, rfl, rfl, rfl, rfl, rfl, trivial⟩)⟩) ?_; clear h
      rintro r a w ⟨hi_r, D, hD, h⟩
      refine gC h (zs (zs (zr (zm rfl (zm rfl (zp (.lss rfl rfl) (zn ?_))))))); clear h; intro a w h
      change Code.wp _ _ _ _ _
      refine cond_split h rfl (fun hc63 => ?_) (fun hc63 => ?_)
      · skip
        have hlt_r : r < n := by have := of_decide_eq_true hc63; omega
        have hsD : Shp n (mQ D) := by rw [hD]; exact (hsA.pivs (n - c) (by omega)).elim r
        have hlD := shp_len hsD
        have hrD := shp_row hsD (r := r) (by omega)
        have hcD := shp_row hsD (r := c) (by omega)
        obtain ⟨hbD, hbD2⟩ := (hbA.pivs (n - c)).elim (n := n) (c := c) (bn_ge c) r
        rw [← hD] at hbD hbD2
        have hmr : D.getD r RT0 ∈ D := getD_mem _ (by omega)
        replace h := h.derive (R := Row (D.getD r RT0).ad (cellsOf encF (D.getD r RT0).l)) (fun X hX => AllR.get1 (hX _ mm) hmr)
        obtain ⟨br, pr, hbr⟩ := h.row_addr (ad := (D.getD r RT0).ad) (M := cellsOf encF (D.getD r RT0).l) (List.Mem.head _) (by intro e; have := congrArg List.length e; rw [cellsOf_length (k := 3) (fun _ => rfl)] at this; simp only [List.length_nil, Nat.mul_eq_zero] at this; omega)
        rw [hbr] at h
        have hmc : D.getD c RT0 ∈ D := getD_mem _ (by omega)
        replace h := h.derive (R := Row (D.getD c RT0).ad (cellsOf encF (D.getD c RT0).l)) (fun X hX => AllR.get1 (hX _ mm) hmc)
        obtain ⟨bc, pc, hbc⟩ := h.row_addr (ad := (D.getD c RT0).ad) (M := cellsOf encF (D.getD c RT0).l) (List.Mem.head _) (by intro e; have := congrArg List.length e; rw [cellsOf_length (k := 3) (fun _ => rfl)] at this; simp only [List.length_nil, Nat.mul_eq_zero] at this; omega)
        rw [hbc] at h
        refine gC h (zk (zs (zb (zs (zs (zr (zm rfl (zm rfl (zp (.eql rfl rfl) ?_))))))))); clear h; intro a w h
        refine by_bool h (fun hc68 h => ?_) (fun hc68 h => ?_)
        · skip
          have hct : r = c ∨ gM (mQ D) r c = 0 ∨ gM (mQ D) c c = 0 := .inl (natEq' hc68)
          refine gL h (zm rfl (zo 69 rfl rfl rfl (zo 69 rfl rfl rfl (zo 69 rfl rfl rfl (zo 69 rfl rfl rfl (zo 69 rfl rfl rfl (zo 69 rfl rfl rfl (zo 69 rfl rfl rfl (zo 69 rfl rfl rfl (zo 69 rfl rfl rfl (zp (.pickT rfl rfl) (zm rfl (zo 80 rfl rfl rfl (zo 80 rfl rfl rfl (zo 80 rfl rfl rfl (zo 80 rfl rfl rfl (zo 80 rfl rfl rfl (zo 80 rfl rfl rfl (zo 80 rfl rfl rfl (zo 80 rfl rfl rfl (zo 80 rfl rfl rfl (zp (.pickT rfl rfl) (zn ?_))))))))))))))))))))))); clear h; intro a w h
          change Code.wp _ _ _ _ _
          refine cond_true h rfl ?_
          refine gC h (ze (zr (zm rfl (zp (Pure1.cast (v' := (.int .i64 ((r + 1 : Nat) : Int))) (.add rfl rfl) (by show Value.int _ _ = Value.int _ _; congr 1)) (za rfl (zn ?_)))))); clear h; intro a w h
          skip
          exact ⟨r + 1, ⟨by omega, D, by rw [show elN n (pivN (colN n (mQ rows) c) c (n - c)) c (r + 1) = elF n (elN n (pivN (colN n (mQ rows) c) c (n - c)) c r) c r from rfl, ← hD, elF, if_pos hct], by exact (h.factsSub (by simp)).sub sA⟩, by omega⟩
        · skip
          have h68 : r ≠ c := natNe' hc68
          refine gL h (zm rfl (zq 69 rfl rfl (.move rfl) (zq 69 rfl rfl (.move rfl) (zq 69 rfl rfl (.indexAddr rfl rfl (ix_115 _ _ _ _ _ (by omega))) ?_)))); clear h; intro a w h
          refine wpl_guard 69 h rfl rfl (op_load h rfl mm Tryz.isAgg51 Tryz.sizeOf51 ((congrArg _ (Nat.zero_add _)).trans (read_rowR (enc := encR) (l := D) RT0 (by omega))) (by decide) ?_); clear h; intro a h
          refine gL h (zq 69 rfl rfl (.move rfl) (zq 69 rfl rfl (.indexAddr rfl rfl (ixe _ _ _ hbr (by omega))) ?_)); clear h; intro a w h
          refine wpl_guard 69 h rfl rfl (op_loadRow h rfl mm (cells_lt (k := 3) (by decide) (fun _ => rfl) ((D.getD r RT0).l) c (by omega)) Tryz.isAgg50 Tryz.sizeOf50 (read_cells (k := 3) (fun _ => rfl) ((fun _ => rfl)) ((D.getD r RT0).l) FT0 c (by omega)) (.inl rfl) (by decide) ?_); clear h; intro a h
          refine wpl_guard 69 h rfl rfl (op_callV h (vs := [_]) rfl Tryz.call97 (C_fSign ((((D.getD r RT0).l).getD c FT0).x) _ _ _ _) (by decide) ?_); clear h; intro a w h
          refine gL h (zq 69 rfl rfl (.eql rfl rfl) ?_); clear h; intro a w h
          refine by_bool h (fun hc78 h => ?_) (fun hc78 h => ?_)
          · skip
            have hct : r = c ∨ gM (mQ D) r c = 0 ∨ gM (mQ D) c c = 0 := .inr (.inl (by rw [sign_eq] at hc78; rw [gM_mQ (by omega) (by omega)]; exact of_decide_eq_true hc78))
            refine gL h (zp (.pickF rfl rfl) (zm rfl (zo 80 rfl rfl rfl (zo 80 rfl rfl rfl (zo 80 rfl rfl rfl (zo 80 rfl rfl rfl (zo 80 rfl rfl rfl (zo 80 rfl rfl rfl (zo 80 rfl rfl rfl (zo 80 rfl rfl rfl (zo 80 rfl rfl rfl (zp (.pickT rfl rfl) (zn ?_))))))))))))); clear h; intro a w h
            change Code.wp _ _ _ _ _
            refine cond_true h rfl ?_
            refine gC h (ze (zr (zm rfl (zp (Pure1.cast (v' := (.int .i64 ((r + 1 : Nat) : Int))) (.add rfl rfl) (by show Value.int _ _ = Value.int _ _; congr 1)) (za rfl (zn ?_)))))); clear h; intro a w h
            skip
            exact ⟨r + 1, ⟨by omega, D, by rw [show elN n (pivN (colN n (mQ rows) c) c (n - c)) c (r + 1) = elF n (elN n (pivN (colN n (mQ rows) c) c (n - c)) c r) c r from rfl, ← hD, elF, if_pos hct], by exact (h.factsSub (by simp)).sub sA⟩, by omega⟩
          · skip
            have h78 : gM (mQ D) r c ≠ 0 := by rw [sign_eq] at hc78; rw [gM_mQ (by omega) (by omega)]; exact of_decide_eq_false hc78
            refine gL h (zp (.pickF rfl rfl) (zm rfl (zq 80 rfl rfl (.move rfl) (zq 80 rfl rfl (.move rfl) (zq 80 rfl rfl (.indexAddr rfl rfl (ix_115 _ _ _ _ _ (by omega))) ?_))))); clear h; intro a w h
            refine wpl_guard 80 h rfl rfl (op_load h rfl mm Tryz.isAgg51 Tryz.sizeOf51 ((congrArg _ (Nat.zero_add _)).trans (read_rowR (enc := encR) (l := D) RT0 (by omega))) (by decide) ?_); clear h; intro a h
            refine gL h (zq 80 rfl rfl (.move rfl) (zq 80 rfl rfl (.indexAddr rfl rfl (ixe _ _ _ hbc (by omega))) ?_)); clear h; intro a w h
            refine wpl_guard 80 h rfl rfl (op_loadRow h rfl mm (cells_lt (k := 3) (by decide) (fun _ => rfl) ((D.getD c RT0).l) c (by omega)) Tryz.isAgg50 Tryz.sizeOf50 (read_cells (k := 3) (fun _ => rfl) ((fun _ => rfl)) ((D.getD c RT0).l) FT0 c (by omega)) (.inl rfl) (by decide) ?_); clear h; intro a h
            refine wpl_guard 80 h rfl rfl (op_callV h (vs := [_]) rfl Tryz.call97 (C_fSign ((((D.getD c RT0).l).getD c FT0).x) _ _ _ _) (by decide) ?_); clear h; intro a w h
            refine gL h (zq 80 rfl rfl (.eql rfl rfl) ?_); clear h; intro a w h
            refine by_bool h (fun hc89 h => ?_) (fun hc89 h => ?_)
            · skip
              have hct : r = c ∨ gM (mQ D) r c = 0 ∨ gM (mQ D) c c = 0 := .inr (.inr (by rw [sign_eq] at hc89; rw [gM_mQ (by omega) (by omega)]; exact of_decide_eq_true hc89))
              refine gL h (zp (.pickF rfl rfl) (zn ?_)); clear h; intro a w h
              change Code.wp _ _ _ _ _
              refine cond_true h rfl ?_
              refine gC h (ze (zr (zm rfl (zp (Pure1.cast (v' := (.int .i64 ((r + 1 : Nat) : Int))) (.add rfl rfl) (by show Value.int _ _ = Value.int _ _; congr 1)) (za rfl (zn ?_)))))); clear h; intro a w h
              skip
              exact ⟨r + 1, ⟨by omega, D, by rw [show elN n (pivN (colN n (mQ rows) c) c (n - c)) c (r + 1) = elF n (elN n (pivN (colN n (mQ rows) c) c (n - c)) c r) c r from rfl, ← hD, elF, if_pos hct], by exact (h.factsSub (by simp)).sub sA⟩, by omega⟩
            · skip
              have h89 : gM (mQ D) c c ≠ 0 := by rw [sign_eq] at hc89; rw [gM_mQ (by omega) (by omega)]; exact of_decide_eq_false hc89
              have hct : ¬ (r = c ∨ gM (mQ D) r c = 0 ∨ gM (mQ D) c c = 0) := fun hh => by rcases hh with h | h | h <;> contradiction
              replace h := h.derive (R := AllF (D.getD r RT0).l) (fun X hX => AllR.get2 (hX _ mm) hmr)
              replace h := h.derive (R := AllF (D.getD c RT0).l) (fun X hX => AllR.get2 (hX _ mm) hmc)
              have he1 : (D.getD r RT0).l.getD c FT0 ∈ (D.getD r RT0).l := getD_mem _ (by omega)
              replace h := h.derive (R := Row ((D.getD r RT0).l.getD c FT0).a2 (List.map encn (dg (((D.getD r RT0).l.getD c FT0).x.den - 1)))) (fun X hX => AllF.get2 (hX _ mm) he1)
              replace h := h.derive (R := Row ((D.getD r RT0).l.getD c FT0).a1 (List.map encn (dg ((D.getD r RT0).l.getD c FT0).x.num.natAbs))) (fun X hX => AllF.get1 (hX _ mm) he1)
              have hk1 := ((D.getD r RT0).l.getD c FT0).h1
              have hz1 := hbD2 r c (.inr (Nat.le_refl _))
              rw [gM_mQ (by omega) (by omega)] at hz1
              have he2 : (D.getD c RT0).l.getD c FT0 ∈ (D.getD c RT0).l := getD_mem _ (by omega)
              replace h := h.derive (R := Row ((D.getD c RT0).l.getD c FT0).a2 (List.map encn (dg (((D.getD c RT0).l.getD c FT0).x.den - 1)))) (fun X hX => AllF.get2 (hX _ mm) he2)
              replace h := h.derive (R := Row ((D.getD c RT0).l.getD c FT0).a1 (List.map encn (dg ((D.getD c RT0).l.getD c FT0).x.num.natAbs))) (fun X hX => AllF.get1 (hX _ mm) he2)
              have hk2 := ((D.getD c RT0).l.getD c FT0).h1
              have hz2 := hbD2 c c (.inl rfl)
              rw [gM_mQ (by omega) (by omega)] at hz2
              refine gL h (zp (.pickF rfl rfl) (zn ?_)); clear h; intro a w h
              change Code.wp _ _ _ _ _
              refine cond_false h rfl ?_
              refine gC h (zk (zs (yD mixed_YtfmbhcnanphckaaGreatDoor [0, 1, 2, 3, 4, 5, 6, 7, 8, 9, 10, 11, 12, 13, 14, 15, 16] (floatsOK_of ⟨.inl rfl, .inl rfl, .inl rfl, .inl rfl, .inl rfl, .inl rfl, .inl rfl, .inl rfl, .inl rfl, .inl rfl, .inl rfl, .inl rfl, .inl rfl, .inl rfl, .inl rfl, .inr ⟨8, 50, _, _, _, rfl, rfl, by decide, _, zeroF⟩, .inl rfl, trivial⟩) (yp rfl (.move rfl) (yp rfl (.move rfl) (yp rfl (.indexAddr rfl rfl (ix_115 _ _ _ _ _ (by omega))) (yd rfl rfl mm Tryz.isAgg51 Tryz.sizeOf51 ((congrArg _ (Nat.zero_add _)).trans (read_rowR (enc := encR) (l := D) RT0 (by omega))) ?_))))))); clear h
              refine yp rfl (.move rfl) (yp rfl (.indexAddr rfl rfl (ixe _ _ _ hbr (by omega))) ?_)
              refine head_loadRow rfl (by kernel_rfl) rfl mm (cells_lt (k := 3) (by decide) (fun _ => rfl) ((D.getD r RT0).l) c (by omega)) Tryz.isAgg50 Tryz.sizeOf50 (read_cells (k := 3) (fun _ => rfl) ((fun _ => rfl)) ((D.getD r RT0).l) FT0 c (by omega)) (.inl rfl) (by decide) ?_
              refine yp rfl (.move rfl) (yp rfl (.move rfl) (yp rfl (.indexAddr rfl rfl (ix_115 _ _ _ _ _ (by omega))) (yd rfl rfl mm Tryz.isAgg51 Tryz.sizeOf51 ((congrArg _ (Nat.zero_add _)).trans (read_rowR (enc := encR) (l := D) RT0 (by omega))) ?_)))
              refine yp rfl (.move rfl) (yp rfl (.indexAddr rfl rfl (ixe _ _ _ hbc (by omega))) ?_)
              refine head_loadRow rfl (by kernel_rfl) rfl mm (cells_lt (k := 3) (by decide) (fun _ => rfl) ((D.getD c RT0).l) c (by omega)) Tryz.isAgg50 Tryz.sizeOf50 (read_cells (k := 3) (fun _ => rfl) ((fun _ => rfl)) ((D.getD c RT0).l) FT0 c (by omega)) (.inl rfl) (by decide) ?_
              refine yf [_, _] rfl rfl Tryz.call96 (C_fDiv _ _ _ _ _ _ _ _ ((((D.getD r RT0).l).getD c FT0).x) ((((D.getD c RT0).l).getD c FT0).x) (by omega) (by omega) (by first | assumption | omega)) ?_; rintro v105 Ψ105 ⟨ad105, c105, bd105, d105, rfl, hle105, hlf105, rfl⟩
              have hl105 := lenQ_div ((((D.getD r RT0).l).getD c FT0).x) ((((D.getD c RT0).l).getD c FT0).x)
              refine yz rfl zeroF fun b8 => yt rfl rfl rfl (st_3_0_3 _ _ _ _ _ _) uu Tryz.sizeOf50 rfl nb rfl ?_
              refine yn (zs (zr (za rfl (zn (zs (zs (zr (za rfl (zn (zb ?_)))))))))); intro a w h
              replace h := h.derive (R := AllF []) (fun X hX => AllF.nil X _)
              refine wp_loop_inv (fun (k : Nat) a w => k ≤ (n + 1) ∧ ∃ (W : List FT) (ad : Option Addr) (c5 : Nat) (o : List (Nat × Obj)), (W.map FT.x = elR (mQ D) c r (gM (mQ D) r c / gM (mQ D) c c) k ∧ GrowO 3 50 (.slice ad W.length c5) W.length (cellsOf encF W) o) ∧ St 159 S w0 [(0, .slice (some ⟨b, 0, none⟩) n cap), (2, .slice none 0 0), (3, .int .i64 ((n : Nat) : Int)), (4, .int .i64 ((c : Nat) : Int)), (5, .int .i64 ((c + (n - c) : Nat) : Int)), (7, .int .i64 ((r : Nat) : Int)), (8, .pointer (some ⟨b8, 0, none⟩)), (9, (.slice ad W.length c5)), (10, .int .i64 ((k : Nat) : Int)), (20, .int .i64 ((c : Nat) : Int))] (o ++ ((b8, .cells (Value.cells (.agg #[.bool (decide ((((((D.getD r RT0).l).getD c FT0).x) / ((((D.getD c RT0).l).getD c FT0).x)).num < 0)), .slice ad105 (dg (((((D.getD r RT0).l).getD c FT0).x) / ((((D.getD c RT0).l).getD c FT0).x)).num.natAbs).length c105, .slice bd105 (dg ((((((D.getD r RT0).l).getD c FT0).x) / ((((D.getD c RT0).l).getD c FT0).x)).den - 1)).length d105])) 50 (0, 0)) :: ((b, .cells (List.map encR (D) ++ R).toArray 51 (0, 0)) :: []))) [AllF W, Row ad105 (List.map encn (dg (((((D.getD r RT0).l).getD c FT0).x) / ((((D.getD c RT0).l).getD c FT0).x)).num.natAbs)), Row bd105 (List.map encn (dg ((((((D.getD r RT0).l).getD c FT0).x) / ((((D.getD c RT0).l).getD c FT0).x)).den - 1))), Row ((D.getD c RT0).l.getD c FT0).a1 (List.map encn (dg (((D.getD c RT0).l.getD c FT0).x).num.natAbs)), Row ((D.getD c RT0).l.getD c FT0).a2 (List.map encn (dg ((((D.getD c RT0).l.getD c FT0).x).den - 1))), Row ((D.getD r RT0).l.getD c FT0).a1 (List.map encn (dg (((D.getD r RT0).l.getD c FT0).x).num.natAbs)), Row ((D.getD r RT0).l.getD c FT0).a2 (List.map encn (dg ((((D.getD r RT0).l.getD c FT0).x).den - 1))), AllF (D.getD c RT0).l, AllF (D.getD r RT0).l, Row (some ⟨bc, pc, none⟩) (cellsOf encF (D.getD c RT0).l), Row (some ⟨br, pr, none⟩) (cellsOf encF (D.getD r RT0).l), AllR D] a w) (fun k => (n + 1) - k) 0 (⟨Nat.zero_le _, [], none, 0, [], ⟨rfl, GrowO.nil _ _⟩, by exact (h.factsSub (by simp)).sub (subL ⟨rfl, rfl, rfl, rfl, rfl, rfl, rfl, rfl, rfl, rfl, trivial⟩)⟩) ?_; clear h
              rintro k a w ⟨hi_k, W, ad, c5, o, ⟨hW, hG⟩, h⟩
              refine gC h (zs (zs (zr (zm rfl (zm rfl (zp (.leq rfl rfl) (zn ?_))))))); clear h; intro a w h
              change Code.wp _ _ _ _ _
              refine cond_split h rfl (fun hc108 => ?_) (fun hc108 => ?_)
              · skip
                have hlt_k : k < (n + 1) := by have := of_decide_eq_true hc108; omega
                have hwl : W.length = k := by have h5 := congrArg List.length hW; rwa [List.length_map, elR, lstT_len] at h5
                have he3 : (D.getD r RT0).l.getD k FT0 ∈ (D.getD r RT0).l := getD_mem _ (by omega)
                replace h := h.derive (R := Row ((D.getD r RT0).l.getD k FT0).a2 (List.map encn (dg (((D.getD r RT0).l.getD k FT0).x.den - 1)))) (fun X hX => AllF.get2 (hX _ mm) he3)
                replace h := h.derive (R := Row ((D.getD r RT0).l.getD k FT0).a1 (List.map encn (dg ((D.getD r RT0).l.getD k FT0).x.num.natAbs))) (fun X hX => AllF.get1 (hX _ mm) he3)
                have hk3 := ((D.getD r RT0).l.getD k FT0).h1
                have hz3 := hbD2 r k (.inr (Nat.le_refl _))
                rw [gM_mQ (by omega) (by omega)] at hz3
                have he4 : (D.getD c RT0).l.getD k FT0 ∈ (D.getD c RT0).l := getD_mem _ (by omega)
                replace h := h.derive (R := Row ((D.getD c RT0).l.getD k FT0).a2 (List.map encn (dg (((D.getD c RT0).l.getD k FT0).x.den - 1)))) (fun X hX => AllF.get2 (hX _ mm) he4)
                replace h := h.derive (R := Row ((D.getD c RT0).l.getD k FT0).a1 (List.map encn (dg ((D.getD c RT0).l.getD k FT0).x.num.natAbs))) (fun X hX => AllF.get1 (hX _ mm) he4)
                have hk4 := ((D.getD c RT0).l.getD k FT0).h1
                have hz4 := hbD2 c k (.inl rfl)
                rw [gM_mQ (by omega) (by omega)] at hz4
                refine gC h (zk (zs (zb (yD mixed_YtfmbhcnanphckaaGreatDoor [0, 1, 2, 3, 4, 5, 6, 7, 8, 9, 10, 11, 12, 13, 14, 15, 16, 17, 18, 19, 20] (floatsOK_none (by kernel_rfl)) (yp rfl (.move rfl) (yp rfl (.move rfl) (yp rfl (.move rfl) (yp rfl (.indexAddr rfl rfl (ix_115 _ _ _ _ _ (by omega))) (yd rfl rfl mm Tryz.isAgg51 Tryz.sizeOf51 ((congrArg _ (Nat.zero_add _)).trans (read_rowR (enc := encR) (l := D) RT0 (by omega))) ?_))))))))); clear h
                refine yp rfl (.move rfl) (yp rfl (.indexAddr rfl rfl (ixe _ _ _ hbr (by omega))) ?_)
                refine head_loadRow rfl (by kernel_rfl) rfl mm (cells_lt (k := 3) (by decide) (fun _ => rfl) ((D.getD r RT0).l) k (by omega)) Tryz.isAgg50 Tryz.sizeOf50 (read_cells (k := 3) (fun _ => rfl) ((fun _ => rfl)) ((D.getD r RT0).l) FT0 k (by omega)) (.inl rfl) (by decide) ?_
                refine yd rfl rfl mr Tryz.isAgg50 Tryz.sizeOf50 (rd_3_0_3 _ _ _) ?_
                refine yp rfl (.move rfl) (yp rfl (.move rfl) (yp rfl (.indexAddr rfl rfl (ix_115 _ _ _ _ _ (by omega))) (yd rfl rfl mm Tryz.isAgg51 Tryz.sizeOf51 ((congrArg _ (Nat.zero_add _)).trans (read_rowR (enc := encR) (l := D) RT0 (by omega))) ?_)))
                refine yp rfl (.move rfl) (yp rfl (.indexAddr rfl rfl (ixe _ _ _ hbc (by omega))) ?_)
                refine head_loadRow rfl (by kernel_rfl) rfl mm (cells_lt (k := 3) (by decide) (fun _ => rfl) ((D.getD c RT0).l) k (by omega)) Tryz.isAgg50 Tryz.sizeOf50 (read_cells (k := 3) (fun _ => rfl) ((fun _ => rfl)) ((D.getD c RT0).l) FT0 k (by omega)) (.inl rfl) (by decide) ?_
                refine yf [_, _] rfl rfl Tryz.call56 (C_fMul _ _ _ _ _ _ _ _ (((((D.getD r RT0).l).getD c FT0).x) / ((((D.getD c RT0).l).getD c FT0).x)) ((((D.getD c RT0).l).getD k FT0).x) (by omega) (by omega)) ?_; rintro v127 Ψ127 ⟨ad127, c127, bd127, d127, rfl, hle127, hlf127, rfl⟩
                have hl127 := lenQ_mul (((((D.getD r RT0).l).getD c FT0).x) / ((((D.getD c RT0).l).getD c FT0).x)) ((((D.getD c RT0).l).getD k FT0).x)
                refine yf [_, _] rfl rfl Tryz.call23 (C_fSub _ _ _ _ _ _ _ _ ((((D.getD r RT0).l).getD k FT0).x) ((((((D.getD r RT0).l).getD c FT0).x) / ((((D.getD c RT0).l).getD c FT0).x)) * ((((D.getD c RT0).l).getD k FT0).x)) (by omega) (by omega)) ?_; rintro v128 Ψ128 ⟨ad128, c128, bd128, d128, rfl, hle128, hlf128, rfl⟩
                have hl128 := lenQ_sub ((((D.getD r RT0).l).getD k FT0).x) ((((((D.getD r RT0).l).getD c FT0).x) / ((((D.getD c RT0).l).getD c FT0).x)) * ((((D.getD c RT0).l).getD k FT0).x))
                refine yB rfl [(_, _)] rfl (bs_51_1_0 _ _ _) fun b129 => ?_
                refine head_appendO (σr := [(b8, .cells (Value.cells (.agg #[.bool (decide ((((((D.getD r RT0).l).getD c FT0).x) / ((((D.getD c RT0).l).getD c FT0).x)).num < 0)), .slice ad105 (dg (((((D.getD r RT0).l).getD c FT0).x) / ((((D.getD c RT0).l).getD c FT0).x)).num.natAbs).length c105, .slice bd105 (dg ((((((D.getD r RT0).l).getD c FT0).x) / ((((D.getD c RT0).l).getD c FT0).x)).den - 1)).length d105])) 50 (0, 0)), (b, .cells (List.map encR (D) ++ R).toArray 51 (0, 0))]) rfl (by kernel_rfl) rfl rfl (List.Perm.trans (List.Perm.refl _) (List.Perm.cons _ (List.Perm.refl _))) hG Tryz.runUnderlying51 Tryz.runUnderlying51 Tryz.typeInfo50 Tryz.sizeOf50 zeroF rfl (by decide) (by decide) rfl rfl (by decide) (by show 56 * (2 * ((W).length + 1) + 192) ≤ 281474976710656; omega) (by decide) ?_
                intro v130 o130 hG130
                obtain ⟨ad130, c130, rfl⟩ := hG130.is
                have hLn130 : (W).length + 1 = (W ++ [FT.mk (((((D.getD r RT0).l).getD k FT0).x) - ((((((D.getD r RT0).l).getD c FT0).x) / ((((D.getD c RT0).l).getD c FT0).x)) * ((((D.getD c RT0).l).getD k FT0).x))) ad128 c128 bd128 d128 hle128 hlf128]).length := by simp only [List.length_append, List.length_cons, List.length_nil, Nat.zero_add]
                rw [hLn130]; rw [hLn130] at hG130
                replace hG130 : GrowO 3 50 (.slice ad130 (W ++ [FT.mk (((((D.getD r RT0).l).getD k FT0).x) - ((((((D.getD r RT0).l).getD c FT0).x) / ((((D.getD c RT0).l).getD c FT0).x)) * ((((D.getD c RT0).l).getD k FT0).x))) ad128 c128 bd128 d128 hle128 hlf128]).length c130) (W ++ [FT.mk (((((D.getD r RT0).l).getD k FT0).x) - ((((((D.getD r RT0).l).getD c FT0).x) / ((((D.getD c RT0).l).getD c FT0).x)) * ((((D.getD c RT0).l).getD k FT0).x))) ad128 c128 bd128 d128 hle128 hlf128]).length (cellsOf encF (W ++ [FT.mk (((((D.getD r RT0).l).getD k FT0).x) - ((((((D.getD r RT0).l).getD c FT0).x) / ((((D.getD c RT0).l).getD c FT0).x)) * ((((D.getD c RT0).l).getD k FT0).x))) ad128 c128 bd128 d128 hle128 hlf128])) o130 := by rw [cellsOf_append, cellsOf_one]; exact hG130
                refine yp rfl (.assign rfl) (yn (zr (zm rfl (zp (Pure1.cast (v' := (.int .i64 ((k + 1 : Nat) : Int))) (.add rfl rfl) (by show Value.int _ _ = Value.int _ _; congr 1)) (za rfl (zn ?_)))))); intro a w h
                replace h := h.derive (R := AllF (W ++ [FT.mk (((((D.getD r RT0).l).getD k FT0).x) - ((((((D.getD r RT0).l).getD c FT0).x) / ((((D.getD c RT0).l).getD c FT0).x)) * ((((D.getD c RT0).l).getD k FT0).x))) ad128 c128 bd128 d128 hle128 hlf128])) (fun X hX => AllF.snoc (hX _ mm) (hX _ mm) (hX _ mm))
                have hW2 : (W ++ [FT.mk (((((D.getD r RT0).l).getD k FT0).x) - ((((((D.getD r RT0).l).getD c FT0).x) / ((((D.getD c RT0).l).getD c FT0).x)) * ((((D.getD c RT0).l).getD k FT0).x))) ad128 c128 bd128 d128 hle128 hlf128]).map FT.x = elR (mQ D) c r (gM (mQ D) r c / gM (mQ D) c c) (k + 1) := by
                  rw [List.map_append, hW]; unfold elR; rw [lstT, gM_mQ (r := r) (c := c) (by omega) (by omega), gM_mQ (r := c) (c := c) (by omega) (by omega), gM_mQ (r := r) (c := k) (by omega) (by omega), gM_mQ (r := c) (c := k) (by omega) (by omega)]; rfl
                exact ⟨k + 1, ⟨by omega, W ++ [FT.mk (((((D.getD r RT0).l).getD k FT0).x) - ((((((D.getD r RT0).l).getD c FT0).x) / ((((D.getD c RT0).l).getD c FT0).x)) * ((((D.getD c RT0).l).getD k FT0).x))) ad128 c128 bd128 d128 hle128 hlf128], ad130, c130, o130, ⟨hW2, hG130⟩, by exact (h.factsSub (by simp)).sub sA⟩, by omega⟩
              · skip
                have heq_k : (n + 1) = k := by have := of_decide_eq_false hc108; omega
                subst heq_k
                replace h := h.shareO' hS hG
                refine gC h (ze (zr (zm rfl (zm rfl (zm rfl (zp (.indexAddr rfl rfl (ix_115 _ _ _ _ _ (by omega))) (zt' rfl rfl ((congrArg (fun z => setFrom _ z _) (Nat.zero_add _)).trans (set_rowR (enc := encR) D R r (RT.mk ad c5 W) (by omega))) uu Tryz.sizeOf51 rfl (by rw [List.size_toArray, List.length_append, List.length_map]; omega) rfl ?_))))))); clear h; intro a w h
                refine gL h (zn (zr (zm rfl (zp (Pure1.cast (v' := (.int .i64 ((r + 1 : Nat) : Int))) (.add rfl rfl) (by show Value.int _ _ = Value.int _ _; congr 1)) (za rfl (zn ?_)))))); clear h; intro a w h
                replace h := h.derive (R := AllR (D.set r (RT.mk ad c5 W))) (fun X hX => AllR.set (hX _ mm) (hX _ mm) (hX _ mm))
                exact ⟨r + 1, ⟨by omega, D.set r (RT.mk ad c5 W), by rw [show elN n (pivN (colN n (mQ rows) c) c (n - c)) c (r + 1) = elF n (elN n (pivN (colN n (mQ rows) c) c (n - c)) c r) c r from rfl, ← hD, elF, if_neg hct, mQ_set, hW], by exact ((h.drop sl).factsSub (by simp)).sub sA⟩, by omega⟩
      · skip
        have heq_r : n = r := by have := of_decide_eq_false hc63; omega
        subst heq_r
        refine gC h (ze (zr (zm rfl (zp (Pure1.cast (v' := (.int .i64 ((c + 1 : Nat) : Int))) (.add rfl rfl) (by show Value.int _ _ = Value.int _ _; congr 1)) (za rfl (zn ?_)))))); clear h; intro a w h
        exact ⟨c + 1, ⟨by omega, D, hD, by exact (h.factsSub (by simp)).sub sA⟩, by omega⟩
  · skip
    have heq_c : n = c := by have := of_decide_eq_false hc17; omega
    subst heq_c
    refine gC h (ze (zs (zr (za rfl (zn (zs (zs (zr (za rfl (zn (zb ?_))))))))))); clear h; intro a w h
    replace h := h.derive (R := AllF []) (fun X hX => AllF.nil X _)
    have hsA : Shp n (mQ A) := by rw [hA]; exact hs.cols n (Nat.le_refl _)
    refine wp_loop_inv (fun (e : Nat) a w => e ≤ n ∧ ∃ (W : List FT) (ad : Option Addr) (c5 : Nat) (o : List (Nat × Obj)), (W.map FT.x = lstT (fun c => gM (mQ A) c n / gM (mQ A) c c) e ∧ GrowO 3 50 (.slice ad W.length c5) W.length (cellsOf encF W) o) ∧ St 159 S w0 [(0, .slice (some ⟨b, 0, none⟩) n cap), (2, .slice none 0 0), (3, .int .i64 ((n : Nat) : Int)), (4, .int .i64 ((n : Nat) : Int)), (11, (.slice ad W.length c5)), (12, .int .i64 ((e : Nat) : Int))] (o ++ ((b, .cells (List.map encR (A) ++ R).toArray 51 (0, 0)) :: [])) [AllF W, AllR A] a w) (fun e => n - e) 0 (⟨Nat.zero_le _, [], none, 0, [], ⟨rfl, GrowO.nil _ _⟩, by exact (h.factsSub (by simp)).sub (subL ⟨rfl, rfl, rfl, rfl, rfl, rfl, trivial⟩)⟩) ?_; clear h
    rintro e a w ⟨hi_e, W, ad, c5, o, ⟨hW, hG⟩, h⟩
    refine gC h (zs (zs (zr (zm rfl (zm rfl (zp (.lss rfl rfl) (zn ?_))))))); clear h; intro a w h
    change Code.wp _ _ _ _ _
    refine cond_split h rfl (fun hc137 => ?_) (fun hc137 => ?_)
    · skip
      have hlt_e : e < n := by have := of_decide_eq_true hc137; omega
      have hwl : W.length = e := by have h5 := congrArg List.length hW; rwa [List.length_map, lstT_len] at h5
      have hlA := shp_len hsA
      have hrA := shp_row hsA (r := e) (by omega)
      have hmr : A.getD e RT0 ∈ A := getD_mem _ (by omega)
      replace h := h.derive (R := Row (A.getD e RT0).ad (cellsOf encF (A.getD e RT0).l)) (fun X hX => AllR.get1 (hX _ mm) hmr)
      obtain ⟨br, pr, hbr⟩ := h.row_addr (ad := (A.getD e RT0).ad) (M := cellsOf encF (A.getD e RT0).l) (List.Mem.head _) (by intro e; have := congrArg List.length e; rw [cellsOf_length (k := 3) (fun _ => rfl)] at this; simp only [List.length_nil, Nat.mul_eq_zero] at this; omega)
      rw [hbr] at h
      replace h := h.derive (R := AllF (A.getD e RT0).l) (fun X hX => AllR.get2 (hX _ mm) hmr)
      have hbA := hb.cols (n := n) n
      rw [← hA] at hbA
      have hbn := bn_le n hn15
      have he5 : (A.getD e RT0).l.getD n FT0 ∈ (A.getD e RT0).l := getD_mem _ (by omega)
      replace h := h.derive (R := Row ((A.getD e RT0).l.getD n FT0).a2 (List.map encn (dg (((A.getD e RT0).l.getD n FT0).x.den - 1)))) (fun X hX => AllF.get2 (hX _ mm) he5)
      replace h := h.derive (R := Row ((A.getD e RT0).l.getD n FT0).a1 (List.map encn (dg ((A.getD e RT0).l.getD n FT0).x.num.natAbs))) (fun X hX => AllF.get1 (hX _ mm) he5)
      have hk5 := ((A.getD e RT0).l.getD n FT0).h1
      have hz5 := hbA e n
      rw [gM_mQ (by omega) (by omega)] at hz5
      have he6 : (A.getD e RT0).l.getD e FT0 ∈ (A.getD e RT0).l := getD_mem _ (by omega)
      replace h := h.derive (R := Row ((A.getD e RT0).l.getD e FT0).a2 (List.map encn (dg (((A.getD e RT0).l.getD e FT0).x.den - 1)))) (fun X hX => AllF.get2 (hX _ mm) he6)
      replace h := h.derive (R := Row ((A.getD e RT0).l.getD e FT0).a1 (List.map encn (dg ((A.getD e RT0).l.getD e FT0).x.num.natAbs))) (fun X hX => AllF.get1 (hX _ mm) he6)
      have hk6 := ((A.getD e RT0).l.getD e FT0).h1
      have hz6 := hbA e e
      rw [gM_mQ (by omega) (by omega)] at hz6
      refine gC h (zk (zs (zb (yD mixed_YtfmbhcnanphckaaGreatDoor [0, 1, 2, 3, 4, 5, 6, 7, 8, 9, 10, 11, 12, 13, 14, 15, 16, 17, 18] (floatsOK_none (by kernel_rfl)) (yp rfl (.move rfl) (yp rfl (.move rfl) (yp rfl (.move rfl) (yp rfl (.indexAddr rfl rfl (ix_115 _ _ _ _ _ (by omega))) (yd rfl rfl mm Tryz.isAgg51 Tryz.sizeOf51 ((congrArg _ (Nat.zero_add _)).trans (read_rowR (enc := encR) (l := A) RT0 (by omega))) ?_))))))))); clear h
      refine yp rfl (.move rfl) (yp rfl (.indexAddr rfl rfl (ixe _ _ _ hbr (by omega))) ?_)
      refine head_loadRow rfl (by kernel_rfl) rfl mm (cells_lt (k := 3) (by decide) (fun _ => rfl) ((A.getD e RT0).l) n (by omega)) Tryz.isAgg50 Tryz.sizeOf50 (read_cells (k := 3) (fun _ => rfl) ((fun _ => rfl)) ((A.getD e RT0).l) FT0 n (by omega)) (.inl rfl) (by decide) ?_
      refine yp rfl (.move rfl) (yp rfl (.move rfl) (yp rfl (.indexAddr rfl rfl (ix_115 _ _ _ _ _ (by omega))) (yd rfl rfl mm Tryz.isAgg51 Tryz.sizeOf51 ((congrArg _ (Nat.zero_add _)).trans (read_rowR (enc := encR) (l := A) RT0 (by omega))) ?_)))
      refine yp rfl (.move rfl) (yp rfl (.indexAddr rfl rfl (ixe _ _ _ hbr (by omega))) ?_)
      refine head_loadRow rfl (by kernel_rfl) rfl mm (cells_lt (k := 3) (by decide) (fun _ => rfl) ((A.getD e RT0).l) e (by omega)) Tryz.isAgg50 Tryz.sizeOf50 (read_cells (k := 3) (fun _ => rfl) ((fun _ => rfl)) ((A.getD e RT0).l) FT0 e (by omega)) (.inl rfl) (by decide) ?_
      refine yf [_, _] rfl rfl Tryz.call96 (C_fDiv _ _ _ _ _ _ _ _ ((((A.getD e RT0).l).getD n FT0).x) ((((A.getD e RT0).l).getD e FT0).x) (by omega) (by omega) (by first | assumption | omega)) ?_; rintro v155 Ψ155 ⟨ad155, c155, bd155, d155, rfl, hle155, hlf155, rfl⟩
      have hl155 := lenQ_div ((((A.getD e RT0).l).getD n FT0).x) ((((A.getD e RT0).l).getD e FT0).x)
      refine yB rfl [(_, _)] rfl (bs_51_1_0 _ _ _) fun b156 => ?_
      refine head_appendO (σr := [(b, .cells (List.map encR (A) ++ R).toArray 51 (0, 0))]) rfl (by kernel_rfl) rfl rfl (List.Perm.trans (List.Perm.refl _) (List.Perm.cons _ (List.Perm.refl _))) hG Tryz.runUnderlying51 Tryz.runUnderlying51 Tryz.typeInfo50 Tryz.sizeOf50 zeroF rfl (by decide) (by decide) rfl rfl (by decide) (by show 56 * (2 * ((W).length + 1) + 192) ≤ 281474976710656; omega) (by decide) ?_
      intro v157 o157 hG157
      obtain ⟨ad157, c157, rfl⟩ := hG157.is
      have hLn157 : (W).length + 1 = (W ++ [FT.mk (((((A.getD e RT0).l).getD n FT0).x) / ((((A.getD e RT0).l).getD e FT0).x)) ad155 c155 bd155 d155 hle155 hlf155]).length := by simp only [List.length_append, List.length_cons, List.length_nil, Nat.zero_add]
      rw [hLn157]; rw [hLn157] at hG157
      replace hG157 : GrowO 3 50 (.slice ad157 (W ++ [FT.mk (((((A.getD e RT0).l).getD n FT0).x) / ((((A.getD e RT0).l).getD e FT0).x)) ad155 c155 bd155 d155 hle155 hlf155]).length c157) (W ++ [FT.mk (((((A.getD e RT0).l).getD n FT0).x) / ((((A.getD e RT0).l).getD e FT0).x)) ad155 c155 bd155 d155 hle155 hlf155]).length (cellsOf encF (W ++ [FT.mk (((((A.getD e RT0).l).getD n FT0).x) / ((((A.getD e RT0).l).getD e FT0).x)) ad155 c155 bd155 d155 hle155 hlf155])) o157 := by rw [cellsOf_append, cellsOf_one]; exact hG157
      refine yp rfl (.assign rfl) (yn (zr (zm rfl (zp (Pure1.cast (v' := (.int .i64 ((e + 1 : Nat) : Int))) (.add rfl rfl) (by show Value.int _ _ = Value.int _ _; congr 1)) (za rfl (zn ?_)))))); intro a w h
      replace h := h.derive (R := AllF (W ++ [FT.mk (((((A.getD e RT0).l).getD n FT0).x) / ((((A.getD e RT0).l).getD e FT0).x)) ad155 c155 bd155 d155 hle155 hlf155])) (fun X hX => AllF.snoc (hX _ mm) (hX _ mm) (hX _ mm))
      have hW2 : (W ++ [FT.mk (((((A.getD e RT0).l).getD n FT0).x) / ((((A.getD e RT0).l).getD e FT0).x)) ad155 c155 bd155 d155 hle155 hlf155]).map FT.x = lstT (fun c => gM (mQ A) c n / gM (mQ A) c c) (e + 1) := by
        rw [List.map_append, hW, lstT, gM_mQ (r := e) (c := n) (by omega) (by omega), gM_mQ (r := e) (c := e) (by omega) (by omega)]; rfl
      exact ⟨e + 1, ⟨by omega, W ++ [FT.mk (((((A.getD e RT0).l).getD n FT0).x) / ((((A.getD e RT0).l).getD e FT0).x)) ad155 c155 bd155 d155 hle155 hlf155], ad157, c157, o157, ⟨hW2, hG157⟩, by exact (h.factsSub (by simp)).sub sA⟩, by omega⟩
    · skip
      have heq_e : n = e := by have := of_decide_eq_false hc137; omega
      subst heq_e
      replace h := h.shareO' hS hG
      refine gC h (ze (zs (zr (zm rfl (za rfl (zn (zt ?_))))))); clear h; intro a w h
      exact retM (σ' := []) (Ψ := [Row ad (cellsOf encF W), AllF W]) h (results1 h rfl (.tmp rfl)) ⟨ad, c5, W, rfl, by rw [hW, hA]; rfl, rfl, rfl⟩ (List.nil_sublist _) (by simp)
end Go.Proofs.YtfmbhcnanphckaaGreatDoor
