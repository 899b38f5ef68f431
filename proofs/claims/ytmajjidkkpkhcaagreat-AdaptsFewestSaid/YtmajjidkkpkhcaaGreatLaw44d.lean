/- Written by a program of ours (gen.py) out of short specifications. By an AI agent. -/
import Derived.Test.YtmajjidkkpkhcaaGreatLaw44c
import Derived.Test.YtmajjidkkpkhcaaGreatFxZ
set_option linter.unusedVariables false
set_option linter.unusedSimpArgs false
set_option maxRecDepth 4000
namespace Go.Proofs.YtmajjidkkpkhcaaGreat
open Go Go.Proofs Go.Fx
attribute [local irreducible] Oper.wp Code.wp wpList Fx.Head wpOp
theorem bs_27_1_0 (x0_0 : Value) (x0_1 : Value) (x0_2 : Value) (w : World) : (Instr.buildSlice 27 1 [(0, .agg #[x0_0, x0_1, x0_2])].toArray).run Tryz.prog w = .ok (.slice (some ⟨w.heap.size, 0, none⟩) 1 1) (w.alloc (.cells #[x0_0, x0_1, x0_2] 33 (0, 0))) := by
  simp [go_sem]
theorem getq (l : List (Int × Int)) {i : Nat} (h : i < l.length) : (List.map qvp l).getD i 0 = qv (l.getD i (0, 0)).1 (l.getD i (0, 0)).2 := by
  simp [List.getD, h, qvp]
theorem markR_len (E : List Rat) (t : Rat) : (markR E t).length ≤ E.length := by
  unfold markR
  split
  · unfold refL
    have := List.length_filter_le (fun i => decide (havN E i < t * sumL E)) (List.range E.length)
    rwa [List.length_range] at this
  · exact Nat.zero_le _
theorem lenE {l : List (Int × Int)} (hok : ∀ q ∈ l, OkQ q) : ∀ x ∈ List.map qvp l, lenQ x ≤ 1000 := by
  intro x hx
  obtain ⟨q, hq, rfl⟩ := List.mem_map.1 hx
  have := lenQ_qvp (hok q hq); omega
theorem lenW {l : List (Int × Int)} (hok : ∀ q ∈ l, OkQ q) {W : List FT} (h : List.map FT.x W = List.map qvp l) : ∀ e ∈ W, lenQ e.x ≤ 1000 := fun e he => lenE hok _ (by rw [← h]; exact List.mem_map_of_mem (f := FT.x) he)

theorem C_AdaptsMark (ad : Option Addr) (c : Nat) (l : List (Int × Int)) (hok : ∀ q ∈ l, OkQ q) (N D : Int) (h0 : -9223372036854775808 ≤ N) (h1 : N ≤ 9223372036854775807) (h2 : 0 ≤ D) (h3 : D ≤ 4294967295) (hn : l.length ≤ 9223372036854775807) : CtrW Tryz.prog 3 [.slice ad l.length c, .agg #[.int .i64 N, .int .u32 D]] [Row ad (cellsOf encQ2 l)] (.bool true) := by
  have hml : (List.map qvp l).length = l.length := List.length_map ..
  have hqE := lenE hok
  have hmr := markR_len (List.map qvp l) (qv N D)
  refine fn_intro Tryz.func3 rfl Tryz.ntmps3 nb ?_
  intro S w0 a hS h
  refine gC h (zs (zr (zx rfl fun b3 => za rfl (zn (zs (zs (zr (zm rfl (zp (.builtin [_] rfl (len_slice_22 _ _ _)) (zp (.gtr rfl rfl) (zn ?_))))))))))); clear h; intro a w h
  change Code.wp _ _ _ _ _
  refine cond_split h rfl (fun hc15 => ?_) (fun hc15 => ?_)
  · skip
    refine gC h (zs (zr (zv [] rfl Tryz.call5 (C_lives) (za rfl (zn (zt ?_)))))); clear h; intro a w h
    refine retV h (results1 h rfl (.tmp rfl)) ?_
    rfl
  · skip
    have hn60 : l.length ≤ 60 := by have := of_decide_eq_false hc15; omega
    refine gC h (zk (zs (zr (za rfl (zn (zs (zs (zr (za rfl (zn (zb ?_))))))))))); clear h; intro a w h
    replace h := h.derive (R := AllF []) (fun X hX => AllF.nil X _)
    refine wp_loop_inv (fun (i : Nat) a w => i ≤ l.length ∧ ∃ (W : List FT) (ad1 : Option Addr) (c1 : Nat) (o1 : List (Nat × Obj)), (W.map FT.x = (l.take i).map qvp ∧ GrowO 3 33 (.slice ad1 W.length c1) W.length (cellsOf encF W) o1) ∧ St 74 S w0 [(0, .slice ad l.length c), (3, .pointer (some ⟨b3, 0, none⟩)), (4, .bool false), (5, (.slice ad1 W.length c1)), (6, .int .i64 ((i : Nat) : Int))] (o1 ++ ((b3, .cells (Value.cells (.agg #[.int .i64 N, .int .u32 D])) 25 (0, 0)) :: [])) [AllF W, Row ad (cellsOf encQ2 l)] a w) (fun i => l.length - i) 0 (⟨Nat.zero_le _, [], none, 0, [], ⟨rfl, GrowO.nil _ _⟩, by exact (h.factsSub (by simp)).sub (subL ⟨rfl, rfl, rfl, rfl, rfl, trivial⟩)⟩) ?_; clear h
    rintro i a w ⟨hi_i, W, ad1, c1, o1, ⟨hW, hG1⟩, h⟩
    refine gC h (zs (zs (zr (zm rfl (zm rfl (zp (.builtin [_] rfl (len_slice_22 _ _ _)) (zp (.lss rfl rfl) (zn ?_)))))))); clear h; intro a w h
    change Code.wp _ _ _ _ _
    refine cond_split h rfl (fun hc20 => ?_) (fun hc20 => ?_)
    · skip
      have hlt_i : i < l.length := by have := of_decide_eq_true hc20; omega
      obtain ⟨B_ad, O_ad, rfl⟩ := h.row_addr (ad := ad) (M := cellsOf encQ2 l) mm (by intro e; have := congrArg List.length e; rw [cellsOf_length (k := 2) (fun _ => rfl)] at this; simp only [List.length_nil, Nat.mul_eq_zero] at this; omega)
      obtain ⟨hqa, hqb, hqc, hqd⟩ := hok _ (getD_mem l (i := i) (d := (0, 0)) hlt_i)
      have hwl : W.length = i := by have := congrArg List.length hW; rw [List.length_map, List.length_map, List.length_take] at this; omega
      refine gC h (zk (zs (zb (zr (zm rfl (zm rfl (zm rfl (zp (.indexAddr rfl rfl (ix_22 _ _ _ _ _ (by omega))) (zD rfl mm (cells_lt (k := 2) (by decide) (fun _ => rfl) l i (by omega)) Tryz.isAgg25 Tryz.sizeOf25 (read_cells (k := 2) (fun _ => rfl) ((fun _ => rfl)) l (0, 0) i (by omega)) (.inl rfl) ?_))))))))); clear h; intro a w h
      refine gL h (zf [_] rfl Tryz.call6 (C_qRef ((l.getD i (0, 0)).1) ((l.getD i (0, 0)).2) (by omega) (by omega) (by omega) (by omega)) ?_); clear h; rintro v28 Ψ28 ⟨ad28, c28, bd28, d28, rfl, hle28, hlf28, rfl⟩ a w h
      have hl28 := lenQ_qv ((l.getD i (0, 0)).1) ((l.getD i (0, 0)).2) (by omega) (by omega) (by omega) (by omega)
      refine gL h (zB [(_, _)] rfl (bs_27_1_0 _ _ _) fun b29 => ?_); clear h; intro a w h
      refine wpl_plain (op_appendO (σr := [(b3, .cells (Value.cells (.agg #[.int .i64 N, .int .u32 D])) 25 (0, 0))]) h rfl rfl (List.Perm.trans (List.Perm.refl _) (List.Perm.cons _ (List.Perm.refl _))) hG1 Tryz.runUnderlying27 Tryz.runUnderlying27 Tryz.typeInfo33 Tryz.sizeOf33 zeroF rfl (by decide) (by decide) rfl rfl (by decide) (by show 56 * (2 * ((W).length + 1) + 192) ≤ 281474976710656; omega) (by decide) ?_); clear h
      intro v30 o30 a w hG30 h
      obtain ⟨ad30, c30, rfl⟩ := hG30.is
      have hLn30 : (W).length + 1 = (W ++ [FT.mk (qv ((l.getD i (0, 0)).1) ((l.getD i (0, 0)).2)) ad28 c28 bd28 d28 hle28 hlf28]).length := by simp only [List.length_append, List.length_cons, List.length_nil, Nat.zero_add]
      rw [hLn30] at h hG30
      replace hG30 : GrowO 3 33 (.slice ad30 (W ++ [FT.mk (qv ((l.getD i (0, 0)).1) ((l.getD i (0, 0)).2)) ad28 c28 bd28 d28 hle28 hlf28]).length c30) (W ++ [FT.mk (qv ((l.getD i (0, 0)).1) ((l.getD i (0, 0)).2)) ad28 c28 bd28 d28 hle28 hlf28]).length (cellsOf encF (W ++ [FT.mk (qv ((l.getD i (0, 0)).1) ((l.getD i (0, 0)).2)) ad28 c28 bd28 d28 hle28 hlf28])) o30 := by rw [cellsOf_append, cellsOf_one]; exact hG30
      refine gL h (za rfl (zn (zr (zm rfl (zp (Pure1.cast (v' := (.int .i64 ((i + 1 : Nat) : Int))) (.add rfl rfl) (by show Value.int _ _ = Value.int _ _; congr 1)) (za rfl (zn ?_))))))); clear h; intro a w h
      replace h := h.derive (R := AllF (W ++ [FT.mk (qv ((l.getD i (0, 0)).1) ((l.getD i (0, 0)).2)) ad28 c28 bd28 d28 hle28 hlf28])) (fun X hX => AllF.snoc (hX _ mm) (hX _ mm) (hX _ mm))
      exact ⟨i + 1, ⟨by omega, W ++ [FT.mk (qv ((l.getD i (0, 0)).1) ((l.getD i (0, 0)).2)) ad28 c28 bd28 d28 hle28 hlf28], ad30, c30, o30, ⟨by rw [List.map_append, hW, ← qv_take l hlt_i]; rfl, hG30⟩, by exact (h.factsSub (by simp)).sub sA⟩, by omega⟩
    · skip
      have heq_i : l.length = i := by have := of_decide_eq_false hc20; omega
      subst heq_i
      rw [List.take_length] at hW
      have hwl : W.length = l.length := by have := congrArg List.length hW; rw [List.length_map, List.length_map] at this; omega
      have hWl := lenW hok hW
      replace h := St.shareO' h hS hG1
      refine gC h (ze (zs (zr (zm rfl (zf [_] rfl Tryz.call7 (C_numbers _ _ l (by assumption) (by omega)) ?_))))); clear h; rintro v32 Ψ32 ⟨ad32, c32, rfl, rfl⟩ a w h
      refine gL h (za rfl (zn (zs (zr (zm rfl (zd rfl mr Tryz.isAgg25 Tryz.sizeOf25 (rd_2_0_2 _ _) ?_)))))); clear h; intro a w h
      refine gL h (zv [_] rfl Tryz.call9 (C_qOf N D (by omega) (by omega) (by omega) (by omega)) ?_); clear h; intro a w h
      have hl36 := lenQ_qv N D (by omega) (by omega) (by omega) (by omega)
      refine gL h (zf [_, _] rfl Tryz.call8 (C_Mark (List.map qvp l) _ _ (qv N D) (by assumption) (by omega) (by omega)) ?_); clear h; rintro v37 Ψ37 ⟨ad37, rfl, rfl⟩ a w h
      refine gL h (zm rfl (zp (.extract rfl (fun _ => rfl)) (zp (.extract rfl (fun _ => rfl)) (za rfl (za rfl (zn (zs (zr (zm rfl (zd rfl mr Tryz.isAgg25 Tryz.sizeOf25 (rd_2_0_2 _ _) ?_)))))))))); clear h; intro a w h
      refine gL h (zf [_] rfl Tryz.call6 (C_qRef N D (by omega) (by omega) (by omega) (by omega)) ?_); clear h; rintro v43 Ψ43 ⟨ad43, c43, bd43, d43, rfl, hle43, hlf43, rfl⟩ a w h
      have hl43 := lenQ_qv N D (by omega) (by omega) (by omega) (by omega)
      refine gL h (zf [_, _] rfl Tryz.call10 (C_rMark W _ _ (qv N D) ad43 c43 bd43 d43 hWl (by omega) (by omega)) ?_); clear h; rintro v44 Ψ44 ⟨ad44, c44, rfl, rfl⟩ a w h
      rw [hW] at h
      refine gL h (zm rfl (zp (.extract rfl (fun _ => rfl)) (zp (.extract rfl (fun _ => rfl)) (za rfl (za rfl (zn (zs (zs (zr (za rfl (zn (zb ?_)))))))))))); clear h; intro a w h
      refine wp_loop_inv (fun (j : Nat) a w => j ≤ l.length ∧ St 74 S w0 [(0, .slice ad l.length c), (3, .pointer (some ⟨b3, 0, none⟩)), (5, .slice ad1 W.length c1), (6, .int .i64 ((l.length : Nat) : Int)), (7, .slice ad32 ((List.map qvp l).length) c32), (8, .slice ad37 ((markR (List.map qvp l) (qv N D)).length) ((markR (List.map qvp l) (qv N D)).length)), (9, .int .i64 (markE (List.map qvp l) (qv N D))), (10, .slice ad44 ((markR (List.map qvp l) (qv N D)).length) c44), (11, .int .i64 (markE (List.map qvp l) (qv N D))), (12, .int .i64 ((j : Nat) : Int))] [(b3, .cells (Value.cells (.agg #[.int .i64 N, .int .u32 D])) 25 (0, 0))] [Row ad44 (List.map encn (markR (List.map qvp l) (qv N D))), Row ad43 (List.map encn (dg (qv N D).num.natAbs)), Row bd43 (List.map encn (dg ((qv N D).den - 1))), Row ad37 (List.map encn (markR (List.map qvp l) (qv N D))), Row ad32 (cellsOf encQ (List.map qvp l)), Row ad1 (cellsOf encF W), AllF W, Row ad (cellsOf encQ2 l)] a w) (fun j => l.length - j) 0 (⟨Nat.zero_le _, by exact (h).sub (subL ⟨rfl, rfl, rfl, rfl, rfl, rfl, rfl, rfl, rfl, rfl, trivial⟩)⟩) ?_; clear h
      rintro j a w ⟨hi_j, h⟩
      refine gC h (zs (zs (zr (zm rfl (zm rfl (zp (.builtin [_] rfl (len_slice_22 _ _ _)) (zp (.lss rfl rfl) (zn ?_)))))))); clear h; intro a w h
      change Code.wp _ _ _ _ _
      refine cond_split h rfl (fun hc50 => ?_) (fun hc50 => ?_)
      · skip
        have hlt_j : j < l.length := by have := of_decide_eq_true hc50; omega
        obtain ⟨B_ad, O_ad, rfl⟩ := h.row_addr (ad := ad) (M := cellsOf encQ2 l) mm (by intro e; have := congrArg List.length e; rw [cellsOf_length (k := 2) (fun _ => rfl)] at this; simp only [List.length_nil, Nat.mul_eq_zero] at this; omega)
        obtain ⟨B_ad32, O_ad32, rfl⟩ := h.row_addr (ad := ad32) (M := cellsOf encQ (List.map qvp l)) mm (by intro e; have := congrArg List.length e; rw [cellsOf_length (k := 5) (fun _ => rfl)] at this; simp only [List.length_nil, Nat.mul_eq_zero] at this; omega)
        obtain ⟨hqa, hqb, hqc, hqd⟩ := hok _ (getD_mem l (i := j) (d := (0, 0)) hlt_j)
        refine gC h (zk (zs (zb (zs (yD mixed_YtmajjidkkpkhcaaGreat [0, 1, 2, 3, 4, 5, 6, 7, 8, 9] (floatsOK_none (by kernel_rfl)) (yp rfl (.move rfl) (yp rfl (.move rfl) (yp rfl (.indexAddr rfl rfl (ix_35 _ _ _ _ _ (by omega))) ?_)))))))); clear h
        refine head_loadRow rfl (by kernel_rfl) rfl mm (cells_lt (k := 5) (by decide) (fun _ => rfl) (List.map qvp l) j (by omega)) Tryz.isAgg48 Tryz.sizeOf48 (read_cells (k := 5) (fun _ => rfl) ((fun _ => rfl)) (List.map qvp l) 0 j (by omega)) (.inl rfl) (by decide) ?_
        refine yp rfl (.move rfl) (yp rfl (.move rfl) (yp rfl (.indexAddr rfl rfl (ix_22 _ _ _ _ _ (by omega))) ?_))
        refine head_loadRow rfl (by kernel_rfl) rfl mm (cells_lt (k := 2) (by decide) (fun _ => rfl) l j (by omega)) Tryz.isAgg25 Tryz.sizeOf25 (read_cells (k := 2) (fun _ => rfl) ((fun _ => rfl)) l (0, 0) j (by omega)) (.inl rfl) (by decide) ?_
        refine yv [_] rfl rfl Tryz.call9 (C_qOf ((l.getD j (0, 0)).1) ((l.getD j (0, 0)).2) (by omega) (by omega) (by omega) (by omega)) ?_
        have hl61 := lenQ_qv ((l.getD j (0, 0)).1) ((l.getD j (0, 0)).2) (by omega) (by omega) (by omega) (by omega)
        refine yp rfl (.binOp rfl rfl (fun _ => run_neQ _ _ ((List.map qvp l).getD j 0) (qv ((l.getD j (0, 0)).1) ((l.getD j (0, 0)).2)) _)) ?_
        refine head_bool (fun hc62  => (by exfalso; rw [getq l hlt_j] at hc62; simp at hc62)) (fun hc62  => ?_)
        refine yn ?_; intro a w h
        change Code.wp _ _ _ _ _
        refine cond_false h rfl ?_
        refine gC h (zk (zr (zm rfl (zp (Pure1.cast (v' := (.int .i64 ((j + 1 : Nat) : Int))) (.add rfl rfl) (by show Value.int _ _ = Value.int _ _; congr 1)) (za rfl (zn ?_)))))); clear h; intro a w h
        exact ⟨j + 1, ⟨by omega, (h.factsSub (by simp)).sub sA⟩, by omega⟩
      · skip
        have heq_j : l.length = j := by have := of_decide_eq_false hc50; omega
        subst heq_j
        refine gC h (ze (zs (zr (zm rfl (zm rfl (zp (.eql rfl rfl) ?_)))))); clear h; intro a w h
        refine by_bool h (fun hc65 h => ?_) (fun hc65 h => (by exfalso; simp at hc65))
        refine gL h (zm rfl (zq 66 rfl rfl (.move rfl) (zq 66 rfl rfl (.move rfl) ?_))); clear h; intro a w h
        refine wpl_guard 66 h rfl rfl (op_callW h (vs := [_, _]) rfl Tryz.call11 (C_Ints ad37 ad44 c44 (markR (List.map qvp l) (qv N D)) (by omega)) (by simp) (by decide) ?_); clear h; intro a w h
        refine by_bool h (fun hc69 h => ?_) (fun hc69 h => (by exfalso; cases hc69))
        refine gL h (zp (.pickT rfl rfl) (zm rfl ?_)); clear h; intro a w h
        refine wpl_guard 71 h rfl rfl (op_callV h (vs := []) rfl Tryz.call5 (C_lives) (by decide) ?_); clear h; intro a w h
        refine by_bool h (fun hc72 h => ?_) (fun hc72 h => (by exfalso; cases hc72))
        refine gL h (zp (.pickT rfl rfl) (za rfl (zn (zt ?_)))); clear h; intro a w h
        refine retV h (results1 h rfl (.tmp rfl)) ?_
        rfl
end Go.Proofs.YtmajjidkkpkhcaaGreat
