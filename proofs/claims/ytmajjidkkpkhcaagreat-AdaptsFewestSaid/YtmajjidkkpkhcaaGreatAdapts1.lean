/- Written by a program of ours (gen.py) out of short specifications. By an AI agent. -/
import Derived.Test.YtmajjidkkpkhcaaGreatLaw03q
import Derived.Test.YtmajjidkkpkhcaaGreatFxV
import Derived.Test.YtmajjidkkpkhcaaGreatFxZ
set_option linter.unusedVariables false
set_option linter.unusedSimpArgs false
set_option maxRecDepth 4000
namespace Go.Proofs.YtmajjidkkpkhcaaGreat
open Go Go.Proofs Go.Fx
attribute [local irreducible] Oper.wp Code.wp wpList Fx.Head wpOp
theorem len_slice_28 (a : Option Addr) (n c : Nat) (w : World) (ty : TypeId) (cs : Array Bool) : (Go.builtin .len #[28] ty cs #[.slice a n c]).run Tryz.prog w = .ok (.value (.int .i64 n)) w := by
  simp [go_sem]
theorem ix_28 (b off n c j : Nat) (h : j < n) (w : World) : (Instr.indexAt 28 (.slice (some ⟨b, off, none⟩) n c) (.int .i64 (j : Int))).run Tryz.prog w = .ok (.pointer (some ⟨b, off + j, none⟩)) w := by
  simpa using indexAt_slice Tryz.runUnderlying28 Tryz.sizeOf3 b off n c j h w
theorem bs_28_2_0_1 (x0 : Int) (x1 : Int) (w : World) : (Instr.buildSlice 28 2 [(0, .int .i64 x0), (1, .int .i64 x1)].toArray).run Tryz.prog w = .ok (.slice (some ⟨w.heap.size, 0, none⟩) 2 2) (w.alloc (.cells #[.int .i64 x0, .int .i64 x1] 3 (0, 0))) := by
  simp [go_sem]
abbrev enci (x : Int) : Value := .int .i64 x
/-- The first number that is not 0, else 0. -/
def orI : List Int → Int
  | [] => 0
  | x :: l => if x ≠ 0 then x else orI l
theorem orI_hit : ∀ (l : List Int) (i : Nat), (∀ j, j < i → l.getD j 0 = 0) → i < l.length → l.getD i 0 ≠ 0 → orI l = l.getD i 0
  | [], i, _, h, _ => by simp at h
  | x :: l, 0, _, _, h => by rw [orI]; exact if_pos (by simpa using h)
  | x :: l, i + 1, hz, hl, h => by
    have h0 : x = 0 := by simpa using hz 0 (by omega)
    rw [orI, if_neg (by simp [h0]), orI_hit l i (fun j hj => by simpa using hz (j + 1) (by omega)) (by simpa using hl) (by simpa using h)]
    simp
theorem orI_none : ∀ (l : List Int), (∀ j, j < l.length → l.getD j 0 = 0) → orI l = 0
  | [], _ => rfl
  | x :: l, hz => by
    have h0 : x = 0 := by simpa using hz 0 (by simp)
    rw [orI, if_neg (by simp [h0]), orI_none l (fun j hj => by simpa using hz (j + 1) (by simpa using hj))]
/-- The index of the first negative number, else -1. -/
def idxN : List Rat → Nat → Int
  | [], _ => -1
  | x :: l, i => if x.num.sign < 0 then (i : Int) else idxN l (i + 1)
theorem idxN_step (l : List Rat) (i : Nat) (h : i < l.length) : idxN (l.drop i) i = if (l.getD i 0).num.sign < 0 then (i : Int) else idxN (l.drop (i + 1)) (i + 1) := by
  rw [List.drop_eq_getElem_cons h, idxN]; simp [List.getD, h]
theorem idxN_any : ∀ (l : List Rat) (i : Nat), decide (idxN l i ≥ 0) = l.any (fun x : Rat => decide (x.num.sign < 0))
  | [], i => by rw [idxN]; simp
  | x :: l, i => by
    rw [idxN, List.any_cons, ← idxN_any l (i + 1)]
    by_cases h : x.num.sign < 0
    · rw [if_pos h, decide_eq_true h, Bool.true_or]; exact decide_eq_true (by omega)
    · rw [if_neg h, decide_eq_false h, Bool.false_or]
/-- The comparison by which the indices are sorted. -/
def cfN (E : List Rat) (i k : Nat) : Int := orI [(E.getD k 0 - E.getD i 0).num.sign, cmpZ (i : Int) (k : Int)]

theorem C_Or (ad : Option Addr) (c : Nat) (l : List Int) (hn : l.length ≤ 1000) : CtrW Tryz.prog 27 [.slice ad l.length c] [Row ad (List.map enci l)] (.int .i64 (orI l)) := by
  refine fn_intro Tryz.func27 rfl Tryz.ntmps27 nb ?_
  intro S w0 a hS h
  refine gC h (zs (zr (za rfl (zn (zs (zr (za rfl (zn (zs (zs (zr (zm rfl (zp (.builtin [_] rfl (len_slice_28 _ _ _)) (zm rfl (zn (zb ?_)))))))))))))))); clear h; intro a w h
  refine wp_loop_inv (fun (i : Nat) a w => i ≤ l.length ∧ (∀ j, j < i → l.getD j 0 = 0) ∧ St 18 S w0 [(3, .int .i64 0), (6, .slice ad l.length c), (7, .int .i64 ((l.length : Nat) : Int)), (8, .int .i64 ((i : Nat) : Int))] [] [Row ad (List.map enci l)] a w) (fun i => l.length - i) 0 (⟨Nat.zero_le _, fun j hj => absurd hj (by omega), by exact (h).sub (subL ⟨rfl, rfl, rfl, rfl, trivial⟩)⟩) ?_; clear h
  rintro i a w ⟨hi_i, hinv_i, h⟩
  refine gC h (zs (zr (zp (.lss rfl rfl) (zn (zs ?_))))); clear h; intro a w h
  refine cond_split h rfl (fun hc9 => ?_) (fun hc9 => ?_)
  · skip
    have hlt_i : i < l.length := by have := of_decide_eq_true hc9; omega
    obtain ⟨B_ad, O_ad, rfl⟩ := h.row_addr (ad := ad) (M := List.map enci l) mm (by intro e; have := congrArg List.length e; simp only [List.length_map, List.length_nil] at this; omega)
    refine gC h (zk (zs (zb (zs (zr (zp (.indexAddr rfl rfl (ix_28 _ _ _ _ _ (by omega))) (zD rfl mm (by rw [List.length_map]; omega) Tryz.isAgg3 Tryz.sizeOf3 (read_row (enc := enci) (l := l) 0 (by omega)) (.inr rfl) ?_))))))); clear h; intro a w h
    refine gL h (za rfl (zn (zs (zr (zm rfl (zm rfl (zp (.neq rfl rfl) ?_))))))); clear h; intro a w h
    refine by_bool h (fun hc14 h => ?_) (fun hc14 h => ?_)
    · skip
      refine wpList_nil ?_
      change Code.wp _ _ _ _ _
      refine cond_true h rfl ?_
      refine gC h (zs (zr (zm rfl (za rfl (zn (zt ?_)))))); clear h; intro a w h
      refine retV h (results1 h rfl (.tmp rfl)) ?_
      rw [orI_hit l i hinv_i hlt_i (by simpa using hc14)]
    · skip
      refine wpList_nil ?_
      change Code.wp _ _ _ _ _
      refine cond_false h rfl ?_
      refine gC h (zk (zr (zp (Pure1.cast (v' := (.int .i64 ((i + 1 : Nat) : Int))) (.add rfl rfl) (by show Value.int _ _ = Value.int _ _; congr 1)) (zm rfl (zn ?_))))); clear h; intro a w h
      exact ⟨i + 1, ⟨by omega, fun j hj => by
        rcases Nat.lt_or_ge j i with h1 | h1
        · exact hinv_i j h1
        · rw [show j = i by omega]; simpa using hc14, (h.factsSub (by simp)).sub sA⟩, by omega⟩
  · skip
    have heq_i : l.length = i := by have := of_decide_eq_false hc9; omega
    subst heq_i
    refine gC h (ze (zs (zr (zm rfl (za rfl (zn (zt ?_))))))); clear h; intro a w h
    refine retV h (results1 h rfl (.tmp rfl)) ?_
    rw [orI_none l hinv_i]

theorem C_IndexFunc (ad : Option Addr) (c : Nat) (l : List Rat) (hn : l.length ≤ 1000000) : CtrW Tryz.prog 54 [.slice ad l.length c, .func (.func 21) #[] #[]] [Row ad (cellsOf encQ l)] (.int .i64 (idxN l 0)) := by
  refine fn_intro Tryz.func54 rfl Tryz.ntmps54 nb ?_
  intro S w0 a hS h
  refine gC h (zs (zr (za rfl (zn (zs (zs (zr (zm rfl (zp (.builtin [_] rfl (len_slice_35 _ _ _)) (zm rfl (zn (zb ?_)))))))))))); clear h; intro a w h
  refine wp_loop_inv (fun (i : Nat) a w => i ≤ l.length ∧ (idxN l 0 = idxN (l.drop i) i) ∧ St 19 S w0 [(0, .slice ad l.length c), (1, .func (.func 21) #[] #[]), (7, .int .i64 ((l.length : Nat) : Int)), (8, .int .i64 ((i : Nat) : Int))] [] [Row ad (cellsOf encQ l)] a w) (fun i => l.length - i) 0 (⟨Nat.zero_le _, rfl, by exact (h).sub (subL ⟨rfl, rfl, rfl, rfl, trivial⟩)⟩) ?_; clear h
  rintro i a w ⟨hi_i, hinv_i, h⟩
  refine gC h (zs (zr (zp (.lss rfl rfl) (zn (zs ?_))))); clear h; intro a w h
  refine cond_split h rfl (fun hc9 => ?_) (fun hc9 => ?_)
  · skip
    have hlt_i : i < l.length := by have := of_decide_eq_true hc9; omega
    obtain ⟨B_ad, O_ad, rfl⟩ := h.row_addr (ad := ad) (M := cellsOf encQ l) mm (by intro e; have := congrArg List.length e; rw [cellsOf_length (k := 5) (fun _ => rfl)] at this; simp only [List.length_nil, Nat.mul_eq_zero] at this; omega)
    refine gC h (zk (zs (zb (zs (zr (zm rfl (za rfl (zn (zs (zr (zm rfl (zm rfl (zm rfl (zp (.indexAddr rfl rfl (ix_35 _ _ _ _ _ (by omega))) (zD rfl mm (cells_lt (k := 5) (by decide) (fun _ => rfl) l i (by omega)) Tryz.isAgg48 Tryz.sizeOf48 (read_cells (k := 5) (fun _ => rfl) ((fun _ => rfl)) l 0 i (by omega)) (.inl rfl) ?_))))))))))))))); clear h; intro a w h
    refine wpl_plain (op_callVx h (fs := []) (cs := []) rfl (vs := [_]) rfl Tryz.call21 (C_negative (l.getD i 0)) (by decide) ?_); clear h; intro a w h
    refine by_bool h (fun hc16 h => ?_) (fun hc16 h => ?_)
    · skip
      refine wpList_nil ?_
      change Code.wp _ _ _ _ _
      refine cond_true h rfl ?_
      refine gC h (zs (zr (zm rfl (za rfl (zn (zt ?_)))))); clear h; intro a w h
      refine retV h (results1 h rfl (.tmp rfl)) ?_
      rw [hinv_i, idxN_step l i hlt_i, if_pos (of_decide_eq_true hc16)]
    · skip
      refine wpList_nil ?_
      change Code.wp _ _ _ _ _
      refine cond_false h rfl ?_
      refine gC h (zk (zr (zp (Pure1.cast (v' := (.int .i64 ((i + 1 : Nat) : Int))) (.add rfl rfl) (by show Value.int _ _ = Value.int _ _; congr 1)) (zm rfl (zn ?_))))); clear h; intro a w h
      exact ⟨i + 1, ⟨by omega, by rw [hinv_i, idxN_step l i hlt_i, if_neg (of_decide_eq_false hc16)], (h.factsSub (by simp)).sub sA⟩, by omega⟩
  · skip
    have heq_i : l.length = i := by have := of_decide_eq_false hc9; omega
    subst heq_i
    refine gC h (ze (zs (zr (za rfl (zn (zt ?_)))))); clear h; intro a w h
    refine retV h (results1 h rfl (.tmp rfl)) ?_
    rw [hinv_i, List.drop_length]; rfl

theorem C_Contains (ad : Option Addr) (c : Nat) (l : List Rat) (hn : l.length ≤ 1000000) : CtrW Tryz.prog 24 [.slice ad l.length c, .func (.func 21) #[] #[]] [Row ad (cellsOf encQ l)] (.bool (l.any (fun x : Rat => decide (x.num.sign < 0)))) := by
  refine fn_intro Tryz.func24 rfl Tryz.ntmps24 nb ?_
  intro S w0 a hS h
  refine gC h (zs (zr (za rfl (zn (zs (zr (zm rfl (zm rfl (zw [_, _] rfl Tryz.call54 (C_IndexFunc _ _ l hn) (zp (.geq rfl rfl) (za rfl (zn (zt ?_))))))))))))); clear h; intro a w h
  refine retV h (results1 h rfl (.tmp rfl)) ?_
  rw [idxN_any]

theorem C_order (E : List Rat) (ad : Option Addr) (c i k b o : Nat) (hi : i < E.length) (hk : k < E.length) (hE : ∀ x ∈ E, lenQ x ≤ 1000) :
    CtrW Tryz.prog 26 [.int .i64 ((i : Nat) : Int), .int .i64 ((k : Nat) : Int), .pointer (some ⟨b, o, none⟩)] [Row (some ⟨b, o, none⟩) [.slice ad E.length c], Row ad (cellsOf encQ E)] (.int .i64 (cfN E i k)) := by
  have hei := hE _ (getD_mem E (d := 0) hi)
  have hek := hE _ (getD_mem E (d := 0) hk)
  refine fn_intro Tryz.func26 rfl Tryz.ntmps26 nb ?_
  intro S w0 a hS h
  obtain ⟨B_ad, O_ad, rfl⟩ := h.row_addr (ad := ad) (M := cellsOf encQ E) mm (by intro e; have := congrArg List.length e; rw [cellsOf_length (k := 5) (fun _ => rfl)] at this; simp only [List.length_nil, Nat.mul_eq_zero] at this; omega)
  refine gC h (zs (zr (za rfl (zn (zs (yD mixed_YtmajjidkkpkhcaaGreat [0, 1, 2, 3, 4, 5, 6, 7, 9, 10, 8, 11, 12, 13, 14] (floatsOK_none (by kernel_rfl)) ?_)))))); clear h
  refine head_loadRow (b := b) (off := o) (j := 0) (M := [.slice (some ⟨B_ad, O_ad, none⟩) E.length c]) (v := .slice (some ⟨B_ad, O_ad, none⟩) E.length c) rfl (by kernel_rfl) rfl mm (Nat.succ_pos _) Tryz.isAgg35 Tryz.sizeOf35 rfl (.inr rfl) (by decide) ?_
  refine yp rfl (.move rfl) (yp rfl (.indexAddr rfl rfl (ix_35 _ _ _ _ _ (by omega))) ?_)
  refine head_loadRow rfl (by kernel_rfl) rfl mm (cells_lt (k := 5) (by decide) (fun _ => rfl) E k (by omega)) Tryz.isAgg48 Tryz.sizeOf48 (read_cells (k := 5) (fun _ => rfl) ((fun _ => rfl)) E 0 k (by omega)) (.inl rfl) (by decide) ?_
  refine head_loadRow (b := b) (off := o) (j := 0) (M := [.slice (some ⟨B_ad, O_ad, none⟩) E.length c]) (v := .slice (some ⟨B_ad, O_ad, none⟩) E.length c) rfl (by kernel_rfl) rfl mm (Nat.succ_pos _) Tryz.isAgg35 Tryz.sizeOf35 rfl (.inr rfl) (by decide) ?_
  refine yp rfl (.move rfl) (yp rfl (.indexAddr rfl rfl (ix_35 _ _ _ _ _ (by omega))) ?_)
  refine head_loadRow rfl (by kernel_rfl) rfl mm (cells_lt (k := 5) (by decide) (fun _ => rfl) E i (by omega)) Tryz.isAgg48 Tryz.sizeOf48 (read_cells (k := 5) (fun _ => rfl) ((fun _ => rfl)) E 0 i (by omega)) (.inl rfl) (by decide) ?_
  refine yp rfl (.move rfl) (yp rfl (.move rfl) (yv [_, _] rfl rfl Tryz.call15 (C_QCmp (E.getD k 0) (E.getD i 0) (by omega) (by omega)) (yv [_, _] rfl rfl Tryz.call28 (C_cmpZ (((i : Nat) : Int)) (((k : Nat) : Int))) ?_)))
  refine head_buildRow hS rfl (by kernel_rfl) [(_, _), (_, _)] rfl (bs_28_2_0_1 _ _) (List.map enci [(E.getD k 0 - E.getD i 0).num.sign, cmpZ (i : Int) (k : Int)]) rfl (by decide) ?_; intro b18
  refine yw [_] rfl rfl Tryz.call27 (C_Or _ _ ([((E.getD k 0) - (E.getD i 0)).num.sign, cmpZ (((i : Nat) : Int)) (((k : Nat) : Int))]) nb) (yp rfl (.assign rfl) (yn (zt ?_))); intro a w h
  refine retV h (results1 h rfl (.tmp rfl)) ?_
  rfl
end Go.Proofs.YtmajjidkkpkhcaaGreat
