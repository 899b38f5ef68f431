/- Written by a program of ours (gen.py) out of short specifications. By an AI agent. -/
import Derived.Test.YtmajjidkkpkhcaaGreatAdapts2
import Derived.Test.YtmajjidkkpkhcaaGreatFxZ
set_option linter.unusedVariables false
set_option linter.unusedSimpArgs false
set_option maxRecDepth 4000
namespace Go.Proofs.YtmajjidkkpkhcaaGreat
open Go Go.Proofs Go.Fx
attribute [local irreducible] Oper.wp Code.wp wpList Fx.Head wpOp
theorem len_slice_22 (a : Option Addr) (n c : Nat) (w : World) (ty : TypeId) (cs : Array Bool) : (Go.builtin .len #[22] ty cs #[.slice a n c]).run Tryz.prog w = .ok (.value (.int .i64 n)) w := by
  simp [go_sem]
theorem ix_22 (b off n c j : Nat) (h : j < n) (w : World) : (Instr.indexAt 22 (.slice (some ⟨b, off, none⟩) n c) (.int .i64 (j : Int))).run Tryz.prog w = .ok (.pointer (some ⟨b, off + j * 2, none⟩)) w := by
  simpa using indexAt_slice Tryz.runUnderlying22 Tryz.sizeOf25 b off n c j h w
theorem bs_35_1_0 (x0_0 : Value) (x0_1 : Value) (x0_2 : Value) (x0_3 : Value) (x0_4 : Value) (w : World) : (Instr.buildSlice 35 1 [(0, .agg #[x0_0, x0_1, x0_2, x0_3, x0_4])].toArray).run Tryz.prog w = .ok (.slice (some ⟨w.heap.size, 0, none⟩) 1 1) (w.alloc (.cells #[x0_0, x0_1, x0_2, x0_3, x0_4] 48 (0, 0))) := by
  simp [go_sem]
theorem ix_27 (b off n c j : Nat) (h : j < n) (w : World) : (Instr.indexAt 27 (.slice (some ⟨b, off, none⟩) n c) (.int .i64 (j : Int))).run Tryz.prog w = .ok (.pointer (some ⟨b, off + j * 3, none⟩)) w := by
  simpa using indexAt_slice Tryz.runUnderlying27 Tryz.sizeOf33 b off n c j h w
theorem qv_take (l : List (Int × Int)) {i : Nat} (h : i < l.length) : (l.take i).map qvp ++ [qv (l.getD i (0, 0)).1 (l.getD i (0, 0)).2] = (l.take (i + 1)).map qvp := by
  rw [List.take_add_one, List.map_append]; simp [List.getD, h, qvp]
theorem cap_sl (a : Option Addr) (n c : Nat) (w : World) (ty : TypeId) (cs : Array Bool) : (Go.builtin .cap #[28] ty cs #[.slice a n c]).run Tryz.prog w = .ok (.value (.int .i64 c)) w := by
  simp [go_sem]
/-- The reference's test whether an index stands before another. -/
def befF (L : List FT) (i k : Nat) : Bool := decide (((L.getD i FT0).x - (L.getD k FT0).x).num.sign > 0) || (((L.getD i FT0).x - (L.getD k FT0).x).num.sign == 0 && decide ((i : Int) < (k : Int)))

theorem C_numbers (ad : Option Addr) (c : Nat) (l : List (Int × Int)) (hok : ∀ q ∈ l, OkQ q) (hn : l.length ≤ 1000) : Ctr Tryz.prog 7 [.slice ad l.length c] [Row ad (cellsOf encQ2 l)] (fun v Ψ => ∃ ad1 c1, v = .slice ad1 (List.map qvp l).length c1 ∧ Ψ = [Row ad1 (cellsOf encQ (List.map qvp l))]) := by
  refine fn_intro Tryz.func7 rfl Tryz.ntmps7 nb ?_
  intro S w0 a hS h
  refine gC h (zs (zr (za rfl (zn (zs (zr (za rfl (zn (zs (zs (zr (za rfl (zn (zb ?_)))))))))))))); clear h; intro a w h
  refine wp_loop_inv (fun (i : Nat) a w => i ≤ l.length ∧ ∃ (ad1 : Option Addr) (c1 : Nat) (o1 : List (Nat × Obj)), (GrowO 5 48 (.slice ad1 ((l.take i).map qvp).length c1) ((l.take i).map qvp).length (cellsOf encQ ((l.take i).map qvp)) o1) ∧ St 20 S w0 [(0, .slice ad l.length c), (2, .slice none 0 0), (3, (.slice ad1 ((l.take i).map qvp).length c1)), (4, .int .i64 ((i : Nat) : Int))] (o1 ++ []) [Row ad (cellsOf encQ2 l)] a w) (fun i => l.length - i) 0 (⟨Nat.zero_le _, none, 0, [], GrowO.nil _ _, by exact (h).sub (subL ⟨rfl, rfl, rfl, rfl, trivial⟩)⟩) ?_; clear h
  rintro i a w ⟨hi_i, ad1, c1, o1, hG1, h⟩
  refine gC h (zs (zs (zr (zm rfl (zm rfl (zp (.builtin [_] rfl (len_slice_22 _ _ _)) (zp (.lss rfl rfl) (zn ?_)))))))); clear h; intro a w h
  change Code.wp _ _ _ _ _
  refine cond_split h rfl (fun hc8 => ?_) (fun hc8 => ?_)
  · skip
    have hlt_i : i < l.length := by have := of_decide_eq_true hc8; omega
    obtain ⟨B_ad, O_ad, rfl⟩ := h.row_addr (ad := ad) (M := cellsOf encQ2 l) mm (by intro e; have := congrArg List.length e; rw [cellsOf_length (k := 2) (fun _ => rfl)] at this; simp only [List.length_nil, Nat.mul_eq_zero] at this; omega)
    obtain ⟨hqa, hqb, hqc, hqd⟩ := hok _ (getD_mem l (i := i) (d := (0, 0)) hlt_i)
    have hpl : ((l.take i).map qvp).length = i := by rw [List.length_map, List.length_take]; omega
    refine gC h (zk (zs (zb (zr (zm rfl (zm rfl (zm rfl (zp (.indexAddr rfl rfl (ix_22 _ _ _ _ _ (by omega))) (zD rfl mm (cells_lt (k := 2) (by decide) (fun _ => rfl) l i (by omega)) Tryz.isAgg25 Tryz.sizeOf25 (read_cells (k := 2) (fun _ => rfl) ((fun _ => rfl)) l (0, 0) i (by omega)) (.inl rfl) ?_))))))))); clear h; intro a w h
    refine gL h (zv [_] rfl Tryz.call9 (C_qOf ((l.getD i (0, 0)).1) ((l.getD i (0, 0)).2) (by omega) (by omega) (by omega) (by omega)) ?_); clear h; intro a w h
    have hl16 := lenQ_qv ((l.getD i (0, 0)).1) ((l.getD i (0, 0)).2) (by omega) (by omega) (by omega) (by omega)
    refine gL h (zB [(_, _)] rfl (bs_35_1_0 _ _ _ _ _) fun b17 => ?_); clear h; intro a w h
    refine wpl_plain (op_appendO (σr := []) h rfl rfl (List.Perm.trans (List.Perm.refl _) (List.Perm.cons _ (List.Perm.refl _))) hG1 Tryz.runUnderlying35 Tryz.runUnderlying35 Tryz.typeInfo48 Tryz.sizeOf48 zeroQ rfl (by decide) (by decide) rfl rfl (by decide) (by show 56 * (2 * (((l.take i).map qvp).length + 1) + 192) ≤ 281474976710656; omega) (by decide) ?_); clear h
    intro v18 o18 a w hG18 h
    obtain ⟨ad18, c18, rfl⟩ := hG18.is
    have hLn18 : ((l.take i).map qvp).length + 1 = (((l.take i).map qvp) ++ [qv ((l.getD i (0, 0)).1) ((l.getD i (0, 0)).2)]).length := by simp only [List.length_append, List.length_cons, List.length_nil, Nat.zero_add]
    rw [hLn18] at h hG18
    replace hG18 : GrowO 5 48 (.slice ad18 (((l.take i).map qvp) ++ [qv ((l.getD i (0, 0)).1) ((l.getD i (0, 0)).2)]).length c18) (((l.take i).map qvp) ++ [qv ((l.getD i (0, 0)).1) ((l.getD i (0, 0)).2)]).length (cellsOf encQ (((l.take i).map qvp) ++ [qv ((l.getD i (0, 0)).1) ((l.getD i (0, 0)).2)])) o18 := by rw [cellsOf_append, cellsOf_one]; exact hG18
    refine gL h (za rfl (zn (zr (zm rfl (zp (Pure1.cast (v' := (.int .i64 ((i + 1 : Nat) : Int))) (.add rfl rfl) (by show Value.int _ _ = Value.int _ _; congr 1)) (za rfl (zn ?_))))))); clear h; intro a w h
    rw [qv_take l hlt_i] at h hG18
    exact ⟨i + 1, ⟨by omega, ad18, c18, o18, hG18, by exact (h.factsSub (by simp)).sub sA⟩, by omega⟩
  · skip
    have heq_i : l.length = i := by have := of_decide_eq_false hc8; omega
    subst heq_i
    rw [List.take_length] at h hG1
    refine gC h (ze (zs (zr (zm rfl (za rfl (zn (zt ?_))))))); clear h; intro a w h
    exact ret_of (Ψ := [Row ad1 (cellsOf encQ (List.map qvp l))]) (h.shareO' hS hG1) (results1 h rfl (.tmp rfl)) ⟨ad1, c1, rfl, rfl⟩ (by simp)

theorem C_Ints (ad1 ad2 : Option Addr) (c2 : Nat) (l : List Nat) (hn : l.length ≤ 1000000) : CtrW Tryz.prog 11 [.slice ad1 l.length l.length, .slice ad2 l.length c2] [Row ad1 (List.map encn l), Row ad2 (List.map encn l)] (.bool true) := by
  refine fn_intro Tryz.func11 rfl Tryz.ntmps11 nb ?_
  intro S w0 a hS h
  refine gC h (zs (zr (za rfl (zn (zs (zs (zr (zm rfl (zp (.builtin [_] rfl (len_slice_28 _ _ _)) (zm rfl (zp (.builtin [_] rfl (len_slice_28 _ _ _)) (zp (.neq rfl rfl) ?_)))))))))))); clear h; intro a w h
  refine by_bool h (fun hc10 h => (by exfalso; simp at hc10)) (fun hc10 h => ?_)
  refine gL h (zm rfl (zq 11 rfl rfl (.move rfl) (zq 11 rfl rfl (.builtin [_] rfl (cap_sl _ _ _)) (zq 11 rfl rfl (.move rfl) (zq 11 rfl rfl (.builtin [_] rfl (len_slice_28 _ _ _)) (zq 11 rfl rfl (.gtr rfl rfl) ?_)))))); clear h; intro a w h
  refine by_bool h (fun hc16 h => (by exfalso; have := of_decide_eq_true hc16; omega)) (fun hc16 h => ?_)
  refine gL h (zp (.pickF rfl rfl) (zn ?_)); clear h; intro a w h
  change Code.wp _ _ _ _ _
  refine cond_false h rfl ?_
  refine gC h (zk (zs (zs (zr (za rfl (zn (zb ?_))))))); clear h; intro a w h
  refine wp_loop_inv (fun (i : Nat) a w => i ≤ l.length ∧ St 33 S w0 [(0, .slice ad1 l.length l.length), (1, .slice ad2 l.length c2), (5, .int .i64 ((i : Nat) : Int))] [] [Row ad1 (List.map encn l), Row ad2 (List.map encn l)] a w) (fun i => l.length - i) 0 (⟨Nat.zero_le _, by exact (h).sub (subL ⟨rfl, rfl, rfl, trivial⟩)⟩) ?_; clear h
  rintro i a w ⟨hi_i, h⟩
  refine gC h (zs (zs (zr (zm rfl (zm rfl (zp (.builtin [_] rfl (len_slice_28 _ _ _)) (zp (.lss rfl rfl) (zn ?_)))))))); clear h; intro a w h
  change Code.wp _ _ _ _ _
  refine cond_split h rfl (fun hc21 => ?_) (fun hc21 => ?_)
  · skip
    have hlt_i : i < l.length := by have := of_decide_eq_true hc21; omega
    obtain ⟨B_ad1, O_ad1, rfl⟩ := h.row_addr (ad := ad1) (M := List.map encn l) mm (by intro e; have := congrArg List.length e; simp only [List.length_map, List.length_nil] at this; omega)
    obtain ⟨B_ad2, O_ad2, rfl⟩ := h.row_addr (ad := ad2) (M := List.map encn l) mm (by intro e; have := congrArg List.length e; simp only [List.length_map, List.length_nil] at this; omega)
    refine gC h (zk (zs (zb (zs (yD mixed_YtmajjidkkpkhcaaGreat [0, 1, 2, 3, 4, 5, 6, 7, 8] (floatsOK_none (by kernel_rfl)) (yp rfl (.move rfl) (yp rfl (.move rfl) (yp rfl (.indexAddr rfl rfl (ix_28 _ _ _ _ _ (by omega))) ?_)))))))); clear h
    refine head_loadRow rfl (by kernel_rfl) rfl mm (by rw [List.length_map]; omega) Tryz.isAgg3 Tryz.sizeOf3 (read_row (enc := encn) (l := l) 0 (by omega)) (.inr rfl) (by decide) ?_
    refine yp rfl (.move rfl) (yp rfl (.move rfl) (yp rfl (.indexAddr rfl rfl (ix_28 _ _ _ _ _ (by omega))) ?_))
    refine head_loadRow rfl (by kernel_rfl) rfl mm (by rw [List.length_map]; omega) Tryz.isAgg3 Tryz.sizeOf3 (read_row (enc := encn) (l := l) 0 (by omega)) (.inr rfl) (by decide) ?_
    refine yp rfl (.neq rfl rfl) ?_
    refine head_bool (fun hc32  => (by exfalso; simp at hc32)) (fun hc32  => ?_)
    refine yn ?_; intro a w h
    change Code.wp _ _ _ _ _
    refine cond_false h rfl ?_
    refine gC h (zk (zr (zm rfl (zp (Pure1.cast (v' := (.int .i64 ((i + 1 : Nat) : Int))) (.add rfl rfl) (by show Value.int _ _ = Value.int _ _; congr 1)) (za rfl (zn ?_)))))); clear h; intro a w h
    exact ⟨i + 1, ⟨by omega, (h.factsSub (by simp)).sub sA⟩, by omega⟩
  · skip
    have heq_i : l.length = i := by have := of_decide_eq_false hc21; omega
    subst heq_i
    refine gC h (ze (zs (zr (za rfl (zn (zt ?_)))))); clear h; intro a w h
    refine retV h (results1 h rfl (.tmp rfl)) ?_
    rfl

theorem C_before (ad : Option Addr) (c : Nat) (L : List FT) (i k : Nat) (hi : i < L.length) (hk : k < L.length) (hL : ∀ e ∈ L, lenQ e.x ≤ 1000) : CtrW Tryz.prog 36 [.slice ad L.length c, .int .i64 ((i : Nat) : Int), .int .i64 ((k : Nat) : Int)] [Row ad (cellsOf encF L), AllF L] (.bool (befF L i k)) := by
  refine fn_intro Tryz.func36 rfl Tryz.ntmps36 nb ?_
  intro S w0 a hS h
  have hei : L.getD i FT0 ∈ L := getD_mem _ hi
  have hek : L.getD k FT0 ∈ L := getD_mem _ hk
  have hli := hL _ hei
  have hlk := hL _ hek
  obtain ⟨B_ad, O_ad, rfl⟩ := h.row_addr (ad := ad) (M := cellsOf encF L) mm (by intro e; have := congrArg List.length e; rw [cellsOf_length (k := 3) (fun _ => rfl)] at this; simp only [List.length_nil, Nat.mul_eq_zero] at this; omega)
  replace h := h.derive (R := Row (L.getD k FT0).a2 (List.map encn (dg ((L.getD k FT0).x.den - 1)))) (fun X hX => AllF.get2 (hX _ mm) hek)
  replace h := h.derive (R := Row (L.getD k FT0).a1 (List.map encn (dg (L.getD k FT0).x.num.natAbs))) (fun X hX => AllF.get1 (hX _ mm) hek)
  replace h := h.derive (R := Row (L.getD i FT0).a2 (List.map encn (dg ((L.getD i FT0).x.den - 1)))) (fun X hX => AllF.get2 (hX _ mm) hei)
  replace h := h.derive (R := Row (L.getD i FT0).a1 (List.map encn (dg (L.getD i FT0).x.num.natAbs))) (fun X hX => AllF.get1 (hX _ mm) hei)
  refine gC h (zs (zr (za rfl (zn (zs (yD mixed_YtmajjidkkpkhcaaGreat [0, 1, 2, 3, 4, 5, 6, 7, 8, 9] (floatsOK_none (by kernel_rfl)) (yp rfl (.move rfl) (yp rfl (.move rfl) (yp rfl (.indexAddr rfl rfl (ix_27 _ _ _ _ _ (by omega))) ?_))))))))); clear h
  refine head_loadRow rfl (by kernel_rfl) rfl mm (cells_lt (k := 3) (by decide) (fun _ => rfl) L i (by omega)) Tryz.isAgg33 Tryz.sizeOf33 (read_cells (k := 3) (fun _ => rfl) ((fun _ => rfl)) L FT0 i (by omega)) (.inl rfl) (by decide) ?_
  refine yp rfl (.move rfl) (yp rfl (.move rfl) (yp rfl (.indexAddr rfl rfl (ix_27 _ _ _ _ _ (by omega))) ?_))
  refine head_loadRow rfl (by kernel_rfl) rfl mm (cells_lt (k := 3) (by decide) (fun _ => rfl) L k (by omega)) Tryz.isAgg33 Tryz.sizeOf33 (read_cells (k := 3) (fun _ => rfl) ((fun _ => rfl)) L FT0 k (by omega)) (.inl rfl) (by decide) ?_
  refine yw [_, _] rfl rfl Tryz.call33 (C_fCmp _ _ _ _ _ _ _ _ ((L.getD i FT0).x) ((L.getD k FT0).x) (by omega) (by omega)) (yp rfl (.assign rfl) (yn (zs (zr (zm rfl (zp (.gtr rfl rfl) ?_)))))); intro a w h
  refine by_bool h (fun hc18 h => ?_) (fun hc18 h => ?_)
  · skip
    refine gL h (zm rfl (zo 19 rfl rfl rfl (zo 19 rfl rfl rfl (zo 19 rfl rfl rfl (zu 22 rfl rfl (zu 22 rfl rfl (zu 22 rfl rfl (zo 19 rfl rfl rfl (zp (.pickT rfl rfl) (za rfl (zn (zt ?_)))))))))))); clear h; intro a w h
    refine retV h (results1 h rfl (.tmp rfl)) ?_
    unfold befF; rw [hc18]; rfl
  · skip
    refine gL h (zm rfl (zq 19 rfl rfl (.move rfl) (zq 19 rfl rfl (.eql rfl rfl) ?_))); clear h; intro a w h
    refine by_bool h (fun hc21 h => ?_) (fun hc21 h => ?_)
    · skip
      refine gL h (zq 19 rfl rfl (.move rfl) (zq 22 rfl rfl (.move rfl) (zq 22 rfl rfl (.move rfl) (zq 22 rfl rfl (.lss rfl rfl) (zq 19 rfl rfl (.pickT rfl rfl) (zp (.pickF rfl rfl) (za rfl (zn (zt ?_))))))))); clear h; intro a w h
      refine retV h (results1 h rfl (.tmp rfl)) ?_
      unfold befF; rw [hc18, hc21]; rfl
    · skip
      refine gL h (zq 19 rfl rfl (.move rfl) (zo 22 rfl rfl rfl (zo 22 rfl rfl rfl (zo 22 rfl rfl rfl (zq 19 rfl rfl (.pickF rfl rfl) (zp (.pickF rfl rfl) (za rfl (zn (zt ?_))))))))); clear h; intro a w h
      refine retV h (results1 h rfl (.tmp rfl)) ?_
      unfold befF; rw [hc18, hc21]; rfl
end Go.Proofs.YtmajjidkkpkhcaaGreat
