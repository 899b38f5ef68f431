/- Written by a program of ours (gen.py) out of short specifications. By an AI agent. -/
import Derived.Test.YtfmbhcnanphckaaGreatDoorRef8
import Derived.Test.YtfmbhcnanphckaaGreatDoorFxZ
set_option linter.unusedVariables false
set_option linter.unusedSimpArgs false
set_option maxRecDepth 4000
namespace Go.Proofs.YtfmbhcnanphckaaGreatDoor
open Go Go.Proofs Go.Fx
attribute [local irreducible] Oper.wp Code.wp wpList Fx.Head wpOp
theorem ixv_55 (b off j : Nat) (h : j < 3) (w : World) : (Instr.indexAt 55 (.pointer (some ⟨b, off, none⟩)) (.int .i64 (j : Int))).run Tryz.prog w = .ok (.pointer (some ⟨b, off + j * 5, none⟩)) w := indexAt_arr Tryz.runUnderlying55 Tryz.sizeOf42 b off j h w
theorem Ctr.from {P : Program} {f : FuncId} {args : List Value} {Φ Φ' : List SPred} {post : Value → List SPred → Prop} (h : Ctr P f args Φ post)
    (hd : ∀ X w, (∀ R ∈ Φ', R.p X w) → ∀ R ∈ Φ, R.p X w) : Ctr P f args Φ' post := fun X w hX hΦ => h X w hX (hd X w hΦ)
/-- The law's comparison at an element of a list of the reference's. -/
theorem C_Same3 (x : Rat) (W : List FT) (i : Nat) (hi : i < W.length) (hn : x.num.natAbs < 18446744073709551616) (hd : x.den < 18446744073709551616) (e : x = (W.getD i FT0).x) :
    CtrW Tryz.prog 15 [encQ x, encF (W.getD i FT0)] [TabF, AllF W] (.bool true) := by
  have hy : lenQ (W.getD i FT0).x ≤ 100000000000 := by rw [← e]; exact Nat.le_trans (lenQ_small hn hd) (by decide)
  refine Ctr.from (C_Same2 _ _ _ _ x (W.getD i FT0).x hn hd hy e.symm) ?_
  intro X w h R hR
  have hm : W.getD i FT0 ∈ W := getD_mem _ hi
  simp only [List.mem_cons, List.not_mem_nil, or_false] at hR
  rcases hR with rfl | rfl | rfl
  · exact h _ (List.Mem.head _)
  · exact AllF.get1 (h (AllF W) (by simp)) hm
  · exact AllF.get2 (h (AllF W) (by simp)) hm
def flQ (l : List (Rat × Rat × Rat)) : List Rat := l.flatMap (fun p => [p.1, p.2.1, p.2.2])
theorem cells_flQ : ∀ l, cellsOf encP l = cellsOf encQ (flQ l)
  | [] => rfl
  | p :: l => by
    have h := cells_flQ l
    unfold flQ cellsOf at *
    rw [List.flatMap_cons, List.flatMap_cons, List.flatMap_append, ← h]; rfl
def smallL (l : List Rat) : Bool := l.all fun x => decide (x.num.natAbs < 18446744073709551616) && decide (x.den < 18446744073709551616)
theorem smallL_get {l : List Rat} (h : smallL l = true) {i : Nat} (hi : i < l.length) : (l.getD i 0).num.natAbs < 18446744073709551616 ∧ (l.getD i 0).den < 18446744073709551616 := by
  have h1 := List.all_eq_true.1 h _ (getD_mem (d := 0) l hi)
  rwa [Bool.and_eq_true, decide_eq_true_eq, decide_eq_true_eq] at h1
theorem cot_eq : ∀ n, n ≤ 6 → 1 ≤ n → solveQ (n + 1) (cotM n (n + 1)) = lstT (cotW n) (n + 1) ∧ smallL (lstT (cotW n) (n + 1)) = true := by decide +kernel
theorem lat_eq : ∀ n, n ≤ 4 → 1 ≤ n → solveQ (ptsL n).length (latM n (ptsL n).length) = latW n ∧ smallL (latW n) = true := by decide +kernel
theorem pts_eq : ∀ n, n ≤ 6 → 1 ≤ n → flQ (latP n) = (flI (ptsL n)).map (fun t => (((t : Nat) : Int) : Rat) / (((n : Nat) : Int) : Rat)) ∧ (latP n).length = (ptsL n).length ∧ (latW n).length = (ptsL n).length ∧ (ptsL n).length ≤ 28 ∧ 0 < (ptsL n).length := by decide +kernel
theorem flQ_len : ∀ l, (flQ l).length = 3 * l.length
  | [] => rfl
  | p :: l => by
    have h := flQ_len l
    unfold flQ at *
    rw [List.flatMap_cons, List.length_append, h]; show 3 + 3 * l.length = 3 * (l.length + 1); omega
theorem map_eq_get {W : List FT} {l : List Rat} (h : W.map FT.x = l) {i : Nat} (hi : i < W.length) : l.getD i 0 = (W.getD i FT0).x := by rw [← h, getD_map' FT.x W i FT0 0 hi]

theorem C_RM_low (n : Int) (hn : n < 1) : CtrW Tryz.prog 3 [.int .i64 n] [TabF] (.bool true) := by
  refine fn_intro Tryz.func3 rfl Tryz.ntmps3 nb ?_
  intro S w0 a hS h
  refine gC h (zs (zr (za rfl (zn (zs (zr (zm rfl (zv [_] rfl Tryz.call11 (C_Lat_low n hn) (zm rfl (zp (.extract rfl (fun _ => rfl)) (zp (.extract rfl (fun _ => rfl)) (zz Tryz.zeroValue25 fun b3 => zt' rfl rfl (st_2_0_2 _ _ _ _) uu Tryz.sizeOf25 rfl nb rfl ?_)))))))))))); clear h; intro a w h
  refine gL h (za rfl (zn (zs (zr (zm rfl (zv [_] rfl Tryz.call12 (C_Cot_low n hn) (zm rfl (zp (.extract rfl (fun _ => rfl)) (zp (.extract rfl (fun _ => rfl)) (zz Tryz.zeroValue30 fun b5 => zt' rfl rfl (st_2_0_2 _ _ _ _) uu Tryz.sizeOf30 rfl nb rfl ?_)))))))))); clear h; intro a w h
  refine gL h (za rfl (zn (zs (zs (zr (zm rfl (zp (.lss rfl rfl) (zn ?_)))))))); clear h; intro a w h
  change Code.wp _ _ _ _ _
  refine cond_split h rfl (fun hc23 => ?_) (fun hc23 => (by exfalso; have := of_decide_eq_false hc23; omega))
  refine gC h (zs (zr (zm rfl (zp (.eql rfl rfl) (zm rfl ?_))))); clear h; intro a w h
  refine by_bool h (fun hc26 h => ?_) (fun hc26 h => (by exfalso; exact absurd hc26 (by decide)))
  refine gL h (zq 26 rfl rfl (.move rfl) (zq 26 rfl rfl (.eql rfl rfl) (zp (.pickT rfl rfl) (zm rfl ?_)))); clear h; intro a w h
  refine by_bool h (fun hc30 h => ?_) (fun hc30 h => (by exfalso; exact absurd hc30 (by decide)))
  refine gL h (zq 30 rfl rfl (.fieldAddr rfl (fa_25_0 _ _)) ?_); clear h; intro a w h
  refine wpl_guard 30 h rfl rfl (op_load h rfl mr Tryz.isAgg22 Tryz.sizeOf22 (rs_2_0 _ _) (by decide) ?_); clear h; intro a h
  refine gL h (zq 30 rfl rfl (.builtin [_] rfl (len_slice_22 _ _ _)) (zq 30 rfl rfl (.fieldAddr rfl (fa_25_1 _ _)) ?_)); clear h; intro a w h
  refine wpl_guard 30 h rfl rfl (op_load h rfl mr Tryz.isAgg23 Tryz.sizeOf23 (rs_2_1 _ _) (by decide) ?_); clear h; intro a h
  refine gL h (zq 30 rfl rfl (.builtin [_] rfl (len_slice_23 _ _ _)) (zq 30 rfl rfl (Pure1.cast (v' := (.int .i64 ((0 + 0 : Nat) : Int))) (.add rfl rfl) (by show Value.int _ _ = Value.int _ _; congr 1)) (zq 30 rfl rfl (.fieldAddr rfl (fa_30_0 _ _)) ?_))); clear h; intro a w h
  refine wpl_guard 30 h rfl rfl (op_load h rfl mr Tryz.isAgg23 Tryz.sizeOf23 (rs_2_0 _ _) (by decide) ?_); clear h; intro a h
  refine gL h (zq 30 rfl rfl (.builtin [_] rfl (len_slice_23 _ _ _)) (zq 30 rfl rfl (Pure1.cast (v' := (.int .i64 (((0 + 0) + 0 : Nat) : Int))) (.add rfl rfl) (by show Value.int _ _ = Value.int _ _; congr 1)) (zq 30 rfl rfl (.fieldAddr rfl (fa_30_1 _ _)) ?_))); clear h; intro a w h
  refine wpl_guard 30 h rfl rfl (op_load h rfl mr Tryz.isAgg23 Tryz.sizeOf23 (rs_2_1 _ _) (by decide) ?_); clear h; intro a h
  refine gL h (zq 30 rfl rfl (.builtin [_] rfl (len_slice_23 _ _ _)) (zq 30 rfl rfl (Pure1.cast (v' := (.int .i64 ((((0 + 0) + 0) + 0 : Nat) : Int))) (.add rfl rfl) (by show Value.int _ _ = Value.int _ _; congr 1)) (zq 30 rfl rfl (.eql rfl rfl) (zp (.pickT rfl rfl) (zm rfl ?_))))); clear h; intro a w h
  refine by_bool h (fun hc48 h => ?_) (fun hc48 h => (by exfalso; exact absurd hc48 (by decide)))
  refine wpl_guard 48 h rfl rfl (op_callV h (vs := []) rfl Tryz.call13 (C_works) (by decide) ?_); clear h; intro a w h
  refine gL h (zp (.pickT rfl rfl) (za rfl (zn (zt ?_)))); clear h; intro a w h
  refine retV h (results1 h rfl (.tmp rfl)) ?_
  rfl

theorem C_RM_high (n : Int) (hn : n > 8) (h1 : n ≤ 9223372036854775807) : CtrW Tryz.prog 3 [.int .i64 n] [TabF] (.bool true) := by
  refine fn_intro Tryz.func3 rfl Tryz.ntmps3 nb ?_
  intro S w0 a hS h
  refine gC h (zs (zr (za rfl (zn (zs (zr (zm rfl (zv [_] rfl Tryz.call11 (C_Lat_high n (by omega)) (zm rfl (zp (.extract rfl (fun _ => rfl)) (zp (.extract rfl (fun _ => rfl)) (zz Tryz.zeroValue25 fun b3 => zt' rfl rfl (st_2_0_2 _ _ _ _) uu Tryz.sizeOf25 rfl nb rfl ?_)))))))))))); clear h; intro a w h
  refine gL h (za rfl (zn (zs (zr (zm rfl (zv [_] rfl Tryz.call12 (C_Cot_high n hn) (zm rfl (zp (.extract rfl (fun _ => rfl)) (zp (.extract rfl (fun _ => rfl)) (zz Tryz.zeroValue30 fun b5 => zt' rfl rfl (st_2_0_2 _ _ _ _) uu Tryz.sizeOf30 rfl nb rfl ?_)))))))))); clear h; intro a w h
  refine gL h (za rfl (zn (zs (zs (zr (zm rfl (zp (.lss rfl rfl) (zn ?_)))))))); clear h; intro a w h
  change Code.wp _ _ _ _ _
  refine cond_split h rfl (fun hc23 => (by exfalso; have := of_decide_eq_true hc23; omega)) (fun hc23 => ?_)
  refine gC h (zk (zs (zs (zr (zm rfl (zp (.eql rfl rfl) (zm rfl (zp (.gtr rfl rfl) (zp (.binOp rfl rfl (fun _ => run_bneq _ Tryz.underlying4 _ _ _ _)) (zm rfl ?_)))))))))); clear h; intro a w h
  refine by_bool h (fun hc56 h => (by exfalso; rw [show decide (n > 6) = true from decide_eq_true (by omega)] at hc56; exact absurd hc56 (by decide))) (fun hc56 h => ?_)
  refine gL h (zq 56 rfl rfl (.move rfl) (zq 56 rfl rfl (.eql rfl rfl) (zq 56 rfl rfl (.move rfl) (zq 56 rfl rfl (.leq rfl rfl) (zq 56 rfl rfl (.binOp rfl rfl (fun _ => run_bneq _ Tryz.underlying4 _ _ _ _)) (zp (.pickF rfl rfl) (zm rfl ?_))))))); clear h; intro a w h
  refine by_bool h (fun hc63 h => (by exfalso; rw [show decide (n ≤ 6) = false from decide_eq_false (by omega)] at hc63; exact absurd hc63 (by decide))) (fun hc63 h => ?_)
  refine gL h (zq 63 rfl rfl (.move rfl) (zq 63 rfl rfl (.eql rfl rfl) (zq 63 rfl rfl (.move rfl) (zq 63 rfl rfl (.gtr rfl rfl) (zq 63 rfl rfl (.binOp rfl rfl (fun _ => run_bneq _ Tryz.underlying4 _ _ _ _)) (zp (.pickF rfl rfl) (zm rfl ?_))))))); clear h; intro a w h
  refine by_bool h (fun hc70 h => (by exfalso; rw [show decide (n > 8) = true from decide_eq_true (by omega)] at hc70; exact absurd hc70 (by decide))) (fun hc70 h => ?_)
  refine gL h (zq 70 rfl rfl (.move rfl) (zq 70 rfl rfl (.eql rfl rfl) (zq 70 rfl rfl (.move rfl) (zq 70 rfl rfl (.leq rfl rfl) (zq 70 rfl rfl (.binOp rfl rfl (fun _ => run_bneq _ Tryz.underlying4 _ _ _ _)) (zp (.pickF rfl rfl) (zn ?_))))))); clear h; intro a w h
  change Code.wp _ _ _ _ _
  refine cond_split h rfl (fun hc76 => (by exfalso; rw [show decide (n ≤ 8) = false from decide_eq_false (by omega)] at hc76; exact absurd hc76 (by decide))) (fun hc76 => ?_)
  refine gC h (zk (zs (zs (zr (zm rfl (zp (.gtr rfl rfl) (zn ?_))))))); clear h; intro a w h
  change Code.wp _ _ _ _ _
  refine cond_split h rfl (fun hc78 => ?_) (fun hc78 => (by exfalso; have := of_decide_eq_false hc78; omega))
  refine gC h (zs (zr (zp (.fieldAddr rfl (fa_25_0 _ _)) (zd rfl mr Tryz.isAgg22 Tryz.sizeOf22 (rs_2_0 _ _) ?_)))); clear h; intro a w h
  refine gL h (zp (.builtin [_] rfl (len_slice_22 _ _ _)) (zp (.fieldAddr rfl (fa_25_1 _ _)) (zd rfl mr Tryz.isAgg23 Tryz.sizeOf23 (rs_2_1 _ _) ?_))); clear h; intro a w h
  refine gL h (zp (.builtin [_] rfl (len_slice_23 _ _ _)) (zp (Pure1.cast (v' := (.int .i64 ((0 + 0 : Nat) : Int))) (.add rfl rfl) (by show Value.int _ _ = Value.int _ _; congr 1)) (zp (.fieldAddr rfl (fa_30_0 _ _)) (zd rfl mr Tryz.isAgg23 Tryz.sizeOf23 (rs_2_0 _ _) ?_)))); clear h; intro a w h
  refine gL h (zp (.builtin [_] rfl (len_slice_23 _ _ _)) (zp (Pure1.cast (v' := (.int .i64 (((0 + 0) + 0 : Nat) : Int))) (.add rfl rfl) (by show Value.int _ _ = Value.int _ _; congr 1)) (zp (.fieldAddr rfl (fa_30_1 _ _)) (zd rfl mr Tryz.isAgg23 Tryz.sizeOf23 (rs_2_1 _ _) ?_)))); clear h; intro a w h
  refine gL h (zp (.builtin [_] rfl (len_slice_23 _ _ _)) (zp (Pure1.cast (v' := (.int .i64 ((((0 + 0) + 0) + 0 : Nat) : Int))) (.add rfl rfl) (by show Value.int _ _ = Value.int _ _; congr 1)) (zp (.eql rfl rfl) (zm rfl ?_)))); clear h; intro a w h
  refine by_bool h (fun hc95 h => ?_) (fun hc95 h => (by exfalso; exact absurd hc95 (by decide)))
  refine wpl_guard 95 h rfl rfl (op_callV h (vs := []) rfl Tryz.call13 (C_works) (by decide) ?_); clear h; intro a w h
  refine gL h (zp (.pickT rfl rfl) (za rfl (zn (zt ?_)))); clear h; intro a w h
  refine retV h (results1 h rfl (.tmp rfl)) ?_
  rfl

theorem C_RM_78 (n : Nat) (h7 : 7 ≤ n) (h8 : n ≤ 8) : CtrW Tryz.prog 3 [.int .i64 ((n : Nat) : Int)] [TabF] (.bool true) := by
  have h1 : 1 ≤ n := by omega
  have hla := lstT_len (cotA n) (n + 1)
  have hlw := lstT_len (cotW n) (n + 1)
  
  refine fn_intro Tryz.func3 rfl Tryz.ntmps3 nb ?_
  intro S w0 a hS h
  refine gC h (zs (zr (za rfl (zn (zs (zr (zm rfl (zv [_] rfl Tryz.call11 (C_Lat_high ((n : Nat) : Int) (by omega)) (zm rfl (zp (.extract rfl (fun _ => rfl)) (zp (.extract rfl (fun _ => rfl)) (zz Tryz.zeroValue25 fun b3 => zt' rfl rfl (st_2_0_2 _ _ _ _) uu Tryz.sizeOf25 rfl nb rfl ?_)))))))))))); clear h; intro a w h
  refine gL h (za rfl (zn (zs (zr (zm rfl (zf [_] rfl Tryz.call12 (C_Cotes n h1 (by omega) (cot_s n (by omega))) ?_)))))); clear h; rintro v19 Ψ19 ⟨ad3, c3, ad4, c4, rfl, rfl⟩ a w h
  obtain ⟨B3, O3, rfl⟩ := h.row_addr (ad := ad3) (M := cellsOf encQ (lstT (cotA n) (n + 1))) mm (by intro e; have := congrArg List.length e; rw [cellsOf_length (k := 5) (fun _ => rfl)] at this; simp only [List.length_nil, Nat.mul_eq_zero] at this; omega)
  obtain ⟨B4, O4, rfl⟩ := h.row_addr (ad := ad4) (M := cellsOf encQ (lstT (cotW n) (n + 1))) mm (by intro e; have := congrArg List.length e; rw [cellsOf_length (k := 5) (fun _ => rfl)] at this; simp only [List.length_nil, Nat.mul_eq_zero] at this; omega)
  refine gL h (zm rfl (zp (.extract rfl (fun _ => rfl)) (zp (.extract rfl (fun _ => rfl)) (zz Tryz.zeroValue30 fun b5 => zt' rfl rfl (st_2_0_2 _ _ _ _) uu Tryz.sizeOf30 rfl nb rfl ?_)))); clear h; intro a w h
  refine gL h (za rfl (zn (zs (zs (zr (zm rfl (zp (.lss rfl rfl) (zn ?_)))))))); clear h; intro a w h
  change Code.wp _ _ _ _ _
  refine cond_split h rfl (fun hc23 => (by exfalso; have := of_decide_eq_true hc23; omega)) (fun hc23 => ?_)
  refine gC h (zk (zs (zs (zr (zm rfl (zp (.eql rfl rfl) (zm rfl (zp (.gtr rfl rfl) (zp (.binOp rfl rfl (fun _ => run_bneq _ Tryz.underlying4 _ _ _ _)) (zm rfl ?_)))))))))); clear h; intro a w h
  refine by_bool h (fun hc56 h => (by exfalso; rw [show decide (((n : Nat) : Int) > 6) = true from decide_eq_true (by omega)] at hc56; exact absurd hc56 (by decide))) (fun hc56 h => ?_)
  refine gL h (zq 56 rfl rfl (.move rfl) (zq 56 rfl rfl (.eql rfl rfl) (zq 56 rfl rfl (.move rfl) (zq 56 rfl rfl (.leq rfl rfl) (zq 56 rfl rfl (.binOp rfl rfl (fun _ => run_bneq _ Tryz.underlying4 _ _ _ _)) (zp (.pickF rfl rfl) (zm rfl ?_))))))); clear h; intro a w h
  refine by_bool h (fun hc63 h => (by exfalso; rw [show decide (((n : Nat) : Int) ≤ 6) = false from decide_eq_false (by omega)] at hc63; exact absurd hc63 (by decide))) (fun hc63 h => ?_)
  refine gL h (zq 63 rfl rfl (.move rfl) (zq 63 rfl rfl (.eql rfl rfl) (zq 63 rfl rfl (.move rfl) (zq 63 rfl rfl (.gtr rfl rfl) (zq 63 rfl rfl (.binOp rfl rfl (fun _ => run_bneq _ Tryz.underlying4 _ _ _ _)) (zp (.pickF rfl rfl) (zm rfl ?_))))))); clear h; intro a w h
  refine by_bool h (fun hc70 h => (by exfalso; rw [show decide (((n : Nat) : Int) > 8) = false from decide_eq_false (by omega)] at hc70; exact absurd hc70 (by decide))) (fun hc70 h => ?_)
  refine gL h (zq 70 rfl rfl (.move rfl) (zq 70 rfl rfl (.eql rfl rfl) (zq 70 rfl rfl (.move rfl) (zq 70 rfl rfl (.leq rfl rfl) (zq 70 rfl rfl (.binOp rfl rfl (fun _ => run_bneq _ Tryz.underlying4 _ _ _ _)) (zp (.pickF rfl rfl) (zn ?_))))))); clear h; intro a w h
  change Code.wp _ _ _ _ _
  refine cond_split h rfl (fun hc76 => (by exfalso; rw [show decide (((n : Nat) : Int) ≤ 8) = true from decide_eq_true (by omega)] at hc76; exact absurd hc76 (by decide))) (fun hc76 => ?_)
  refine gC h (zk (zs (zs (zr (zm rfl (zp (.gtr rfl rfl) (zn ?_))))))); clear h; intro a w h
  change Code.wp _ _ _ _ _
  refine cond_split h rfl (fun hc78 => (by exfalso; have := of_decide_eq_true hc78; omega)) (fun hc78 => ?_)
  refine gC h (zk (zs (zs (zr (zp (.fieldAddr rfl (fa_30_0 _ _)) (zd rfl mr Tryz.isAgg23 Tryz.sizeOf23 (rs_2_0 _ _) ?_)))))); clear h; intro a w h
  refine gL h (zp (.builtin [_] rfl (len_slice_23 _ _ _)) (zm rfl (zp (Pure1.cast (v' := (.int .i64 ((n + 1 : Nat) : Int))) (.add rfl rfl) (by show Value.int _ _ = Value.int _ _; congr 1)) (zp (.neq rfl rfl) (zm rfl ?_))))); clear h; intro a w h
  refine by_bool h (fun hc104 h => (by exfalso; exact natNe hc104 (by omega))) (fun hc104 h => ?_)
  refine gL h (zq 104 rfl rfl (.fieldAddr rfl (fa_30_1 _ _)) ?_); clear h; intro a w h
  refine wpl_guard 104 h rfl rfl (op_load h rfl mr Tryz.isAgg23 Tryz.sizeOf23 (rs_2_1 _ _) (by decide) ?_); clear h; intro a h
  refine gL h (zq 104 rfl rfl (.builtin [_] rfl (len_slice_23 _ _ _)) (zq 104 rfl rfl (.move rfl) (zq 104 rfl rfl (Pure1.cast (v' := (.int .i64 ((n + 1 : Nat) : Int))) (.add rfl rfl) (by show Value.int _ _ = Value.int _ _; congr 1)) (zq 104 rfl rfl (.neq rfl rfl) (zp (.pickF rfl rfl) (zn ?_)))))); clear h; intro a w h
  change Code.wp _ _ _ _ _
  refine cond_split h rfl (fun hc111 => (by exfalso; exact natNe hc111 (by omega))) (fun hc111 => ?_)
  refine gC h (zk (zs (zs (zr (za rfl (zn (zb ?_))))))); clear h; intro a w h
  refine wp_loop_inv (fun (i : Nat) a w => i ≤ (n + 1) ∧ St 219 S w0 [(0, .int .i64 ((n : Nat) : Int)), (3, .pointer (some ⟨b3, 0, none⟩)), (5, .pointer (some ⟨b5, 0, none⟩)), (7, .int .i64 ((i : Nat) : Int))] [(b5, .cells (Value.cells (.agg #[.slice (some ⟨B3, O3, none⟩) ((lstT (cotA n) (n + 1)).length) c3, .slice (some ⟨B4, O4, none⟩) ((lstT (cotW n) (n + 1)).length) c4])) 30 (0, 0)), (b3, .cells (Value.cells (.agg #[.slice none 0 0, .slice none 0 0])) 25 (0, 0))] [Row (some ⟨B4, O4, none⟩) (cellsOf encQ (lstT (cotW n) (n + 1))), Row (some ⟨B3, O3, none⟩) (cellsOf encQ (lstT (cotA n) (n + 1))), TabF] a w) (fun i => (n + 1) - i) 0 (⟨Nat.zero_le _, by exact (h).sub (subL ⟨rfl, rfl, rfl, rfl, trivial⟩)⟩) ?_; clear h
  rintro i a w ⟨hi_i, h⟩
  refine gC h (zs (zs (zr (zm rfl (zm rfl (zp (.leq rfl rfl) (zn ?_))))))); clear h; intro a w h
  change Code.wp _ _ _ _ _
  refine cond_split h rfl (fun hc114 => ?_) (fun hc114 => ?_)
  · skip
    have hlt_i : i < (n + 1) := by have := of_decide_eq_true hc114; omega
    have hat : (lstT (cotA n) (n + 1)).getD i 0 = (((i : Nat) : Int) : Rat) / (((n : Nat) : Int) : Rat) := by rw [lstT_get _ _ (by omega)]; rfl
    refine gC h (zk (zs (zb (zs (yD mixed_YtfmbhcnanphckaaGreatDoor [0, 1, 2, 3, 4, 5, 6, 7, 8, 9, 10, 11, 12, 13, 14, 15, 16, 17, 18, 20, 19, 21, 22, 23, 24, 25, 26] (floatsOK_none (by kernel_rfl)) (yp rfl (.fieldAddr rfl (fa_30_0 _ _)) (yd rfl rfl mr Tryz.isAgg23 Tryz.sizeOf23 (rs_2_0 _ _) ?_))))))); clear h
    refine yp rfl (.move rfl) (yp rfl (.indexAddr rfl rfl (ix_23 _ _ _ _ _ (by omega))) ?_)
    refine head_loadRow rfl (by kernel_rfl) rfl mm (cells_lt (k := 5) (by decide) (fun _ => rfl) (lstT (cotA n) (n + 1)) i (by omega)) Tryz.isAgg42 Tryz.sizeOf42 (read_cells (k := 5) (fun _ => rfl) ((fun _ => rfl)) (lstT (cotA n) (n + 1)) 0 i (by omega)) (.inl rfl) (by decide) ?_
    refine yp rfl (.move rfl) (yp rfl (.move rfl) (yv [_, _] rfl rfl Tryz.call14 (C_lof ((i : Nat) : Int) ((n : Nat) : Int) (by omega) (by omega) (by omega) (by omega) (by omega)) (yp rfl (.binOp rfl rfl (fun _ => run_neQ _ _ ((lstT (cotA n) (n + 1)).getD i 0) ((((i : Nat) : Int) : Rat) / (((n : Nat) : Int) : Rat)) _)) (yp rfl (.move rfl) ?_))))
    refine head_bool (fun hc126  => (by exfalso; rw [hat] at hc126; exact absurd hc126 (by simp))) (fun hc126  => ?_)
    refine yq rfl rfl rfl (.move rfl) (yq rfl rfl rfl (.leq rfl rfl) (yq rfl rfl rfl (.move rfl) ?_))
    refine head_bool (fun hc129  => (by exfalso; have := of_decide_eq_true hc129; omega)) (fun hc129  => ?_)
    refine yo 129 rfl rfl rfl rfl (yo 129 rfl rfl rfl rfl (yo 129 rfl rfl rfl rfl (yo 129 rfl rfl rfl rfl (yo 129 rfl rfl rfl rfl (yo 129 rfl rfl rfl rfl (yo 129 rfl rfl rfl rfl (yo 129 rfl rfl rfl rfl (yo 129 rfl rfl rfl rfl (yo 129 rfl rfl rfl rfl (yo 129 rfl rfl rfl rfl (yo 129 rfl rfl rfl rfl (yq rfl rfl rfl (.pickF rfl rfl) (yp rfl (.pickF rfl rfl) (yn ?_)))))))))))))); intro a w h
    change Code.wp _ _ _ _ _
    refine cond_false h rfl ?_
    refine gC h (zk (zr (zm rfl (zp (Pure1.cast (v' := (.int .i64 ((i + 1 : Nat) : Int))) (.add rfl rfl) (by show Value.int _ _ = Value.int _ _; congr 1)) (za rfl (zn ?_)))))); clear h; intro a w h
    exact ⟨i + 1, ⟨by omega, h.sub sA⟩, by omega⟩
  · skip
    have heq_i : (n + 1) = i := by have := of_decide_eq_false hc114; omega
    subst heq_i
    refine gC h (ze (zs (zs (zr (zm rfl (zp (.gtr rfl rfl) (zn ?_))))))); clear h; intro a w h
    change Code.wp _ _ _ _ _
    refine cond_split h rfl (fun hc145 => ?_) (fun hc145 => (by exfalso; have := of_decide_eq_false hc145; omega))
    refine gC h (zs (zr (zp (.fieldAddr rfl (fa_25_0 _ _)) (zd rfl mr Tryz.isAgg22 Tryz.sizeOf22 (rs_2_0 _ _) ?_)))); clear h; intro a w h
    refine gL h (zp (.builtin [_] rfl (len_slice_22 _ _ _)) (zp (.fieldAddr rfl (fa_25_1 _ _)) (zd rfl mr Tryz.isAgg23 Tryz.sizeOf23 (rs_2_1 _ _) ?_))); clear h; intro a w h
    refine gL h (zp (.builtin [_] rfl (len_slice_23 _ _ _)) (zp (Pure1.cast (v' := (.int .i64 ((0 + 0 : Nat) : Int))) (.add rfl rfl) (by show Value.int _ _ = Value.int _ _; congr 1)) (zp (.eql rfl rfl) (zm rfl ?_)))); clear h; intro a w h
    refine by_bool h (fun hc154 h => ?_) (fun hc154 h => (by exfalso; exact absurd hc154 (by decide)))
    refine wpl_guard 154 h rfl rfl (op_callV h (vs := []) rfl Tryz.call13 (C_works) (by decide) ?_); clear h; intro a w h
    refine gL h (zp (.pickT rfl rfl) (za rfl (zn (zt ?_)))); clear h; intro a w h
    refine retV h (results1 h rfl (.tmp rfl)) ?_
    rfl

theorem C_RM_14 (n : Nat) (hlo : 1 ≤ n) (hhi : n ≤ 4) : CtrW Tryz.prog 3 [.int .i64 ((n : Nat) : Int)] [TabF] (.bool true) := by
  have h1 : 1 ≤ n := by omega
  have hla := lstT_len (cotA n) (n + 1)
  have hlw := lstT_len (cotW n) (n + 1)
  have hce := cot_eq n (by omega) h1
  obtain ⟨hp1, hp2, hp3, hp4, hp5⟩ := pts_eq n (by omega) h1
  have hfq := flQ_len (latP n)
  have hle := lat_eq n (by omega) h1
  
  refine fn_intro Tryz.func3 rfl Tryz.ntmps3 nb ?_
  intro S w0 a hS h
  refine gC h (zs (zr (za rfl (zn (zs (zr (zm rfl (zf [_] rfl Tryz.call11 (C_Lattice n h1 (by omega) (rising_s n (by omega))) ?_)))))))); clear h; rintro v14 Ψ14 ⟨ad1, c1, ad2, c2, rfl, rfl⟩ a w h
  rw [cells_flQ (latP n)] at h
  obtain ⟨B1, O1, rfl⟩ := h.row_addr (ad := ad1) (M := cellsOf encQ (flQ (latP n))) mm (by intro e; have := congrArg List.length e; rw [cellsOf_length (k := 5) (fun _ => rfl)] at this; simp only [List.length_nil, Nat.mul_eq_zero] at this; omega)
  obtain ⟨B2, O2, rfl⟩ := h.row_addr (ad := ad2) (M := cellsOf encQ (latW n)) mm (by intro e; have := congrArg List.length e; rw [cellsOf_length (k := 5) (fun _ => rfl)] at this; simp only [List.length_nil, Nat.mul_eq_zero] at this; omega)
  refine gL h (zm rfl (zp (.extract rfl (fun _ => rfl)) (zp (.extract rfl (fun _ => rfl)) (zz Tryz.zeroValue25 fun b3 => zt' rfl rfl (st_2_0_2 _ _ _ _) uu Tryz.sizeOf25 rfl nb rfl ?_)))); clear h; intro a w h
  refine gL h (za rfl (zn (zs (zr (zm rfl (zf [_] rfl Tryz.call12 (C_Cotes n h1 (by omega) (cot_s n (by omega))) ?_)))))); clear h; rintro v19 Ψ19 ⟨ad3, c3, ad4, c4, rfl, rfl⟩ a w h
  obtain ⟨B3, O3, rfl⟩ := h.row_addr (ad := ad3) (M := cellsOf encQ (lstT (cotA n) (n + 1))) mm (by intro e; have := congrArg List.length e; rw [cellsOf_length (k := 5) (fun _ => rfl)] at this; simp only [List.length_nil, Nat.mul_eq_zero] at this; omega)
  obtain ⟨B4, O4, rfl⟩ := h.row_addr (ad := ad4) (M := cellsOf encQ (lstT (cotW n) (n + 1))) mm (by intro e; have := congrArg List.length e; rw [cellsOf_length (k := 5) (fun _ => rfl)] at this; simp only [List.length_nil, Nat.mul_eq_zero] at this; omega)
  refine gL h (zm rfl (zp (.extract rfl (fun _ => rfl)) (zp (.extract rfl (fun _ => rfl)) (zz Tryz.zeroValue30 fun b5 => zt' rfl rfl (st_2_0_2 _ _ _ _) uu Tryz.sizeOf30 rfl nb rfl ?_)))); clear h; intro a w h
  refine gL h (za rfl (zn (zs (zs (zr (zm rfl (zp (.lss rfl rfl) (zn ?_)))))))); clear h; intro a w h
  change Code.wp _ _ _ _ _
  refine cond_split h rfl (fun hc23 => (by exfalso; have := of_decide_eq_true hc23; omega)) (fun hc23 => ?_)
  refine gC h (zk (zs (zs (zr (zm rfl (zp (.eql rfl rfl) (zm rfl (zp (.gtr rfl rfl) (zp (.binOp rfl rfl (fun _ => run_bneq _ Tryz.underlying4 _ _ _ _)) (zm rfl ?_)))))))))); clear h; intro a w h
  refine by_bool h (fun hc56 h => (by exfalso; rw [show decide (((n : Nat) : Int) > 6) = false from decide_eq_false (by omega)] at hc56; exact absurd hc56 (by decide))) (fun hc56 h => ?_)
  refine gL h (zq 56 rfl rfl (.move rfl) (zq 56 rfl rfl (.eql rfl rfl) (zq 56 rfl rfl (.move rfl) (zq 56 rfl rfl (.leq rfl rfl) (zq 56 rfl rfl (.binOp rfl rfl (fun _ => run_bneq _ Tryz.underlying4 _ _ _ _)) (zp (.pickF rfl rfl) (zm rfl ?_))))))); clear h; intro a w h
  refine by_bool h (fun hc63 h => (by exfalso; rw [show decide (((n : Nat) : Int) ≤ 6) = true from decide_eq_true (by omega)] at hc63; exact absurd hc63 (by decide))) (fun hc63 h => ?_)
  refine gL h (zq 63 rfl rfl (.move rfl) (zq 63 rfl rfl (.eql rfl rfl) (zq 63 rfl rfl (.move rfl) (zq 63 rfl rfl (.gtr rfl rfl) (zq 63 rfl rfl (.binOp rfl rfl (fun _ => run_bneq _ Tryz.underlying4 _ _ _ _)) (zp (.pickF rfl rfl) (zm rfl ?_))))))); clear h; intro a w h
  refine by_bool h (fun hc70 h => (by exfalso; rw [show decide (((n : Nat) : Int) > 8) = false from decide_eq_false (by omega)] at hc70; exact absurd hc70 (by decide))) (fun hc70 h => ?_)
  refine gL h (zq 70 rfl rfl (.move rfl) (zq 70 rfl rfl (.eql rfl rfl) (zq 70 rfl rfl (.move rfl) (zq 70 rfl rfl (.leq rfl rfl) (zq 70 rfl rfl (.binOp rfl rfl (fun _ => run_bneq _ Tryz.underlying4 _ _ _ _)) (zp (.pickF rfl rfl) (zn ?_))))))); clear h; intro a w h
  change Code.wp _ _ _ _ _
  refine cond_split h rfl (fun hc76 => (by exfalso; rw [show decide (((n : Nat) : Int) ≤ 8) = true from decide_eq_true (by omega)] at hc76; exact absurd hc76 (by decide))) (fun hc76 => ?_)
  refine gC h (zk (zs (zs (zr (zm rfl (zp (.gtr rfl rfl) (zn ?_))))))); clear h; intro a w h
  change Code.wp _ _ _ _ _
  refine cond_split h rfl (fun hc78 => (by exfalso; have := of_decide_eq_true hc78; omega)) (fun hc78 => ?_)
  refine gC h (zk (zs (zs (zr (zp (.fieldAddr rfl (fa_30_0 _ _)) (zd rfl mr Tryz.isAgg23 Tryz.sizeOf23 (rs_2_0 _ _) ?_)))))); clear h; intro a w h
  refine gL h (zp (.builtin [_] rfl (len_slice_23 _ _ _)) (zm rfl (zp (Pure1.cast (v' := (.int .i64 ((n + 1 : Nat) : Int))) (.add rfl rfl) (by show Value.int _ _ = Value.int _ _; congr 1)) (zp (.neq rfl rfl) (zm rfl ?_))))); clear h; intro a w h
  refine by_bool h (fun hc104 h => (by exfalso; exact natNe hc104 (by omega))) (fun hc104 h => ?_)
  refine gL h (zq 104 rfl rfl (.fieldAddr rfl (fa_30_1 _ _)) ?_); clear h; intro a w h
  refine wpl_guard 104 h rfl rfl (op_load h rfl mr Tryz.isAgg23 Tryz.sizeOf23 (rs_2_1 _ _) (by decide) ?_); clear h; intro a h
  refine gL h (zq 104 rfl rfl (.builtin [_] rfl (len_slice_23 _ _ _)) (zq 104 rfl rfl (.move rfl) (zq 104 rfl rfl (Pure1.cast (v' := (.int .i64 ((n + 1 : Nat) : Int))) (.add rfl rfl) (by show Value.int _ _ = Value.int _ _; congr 1)) (zq 104 rfl rfl (.neq rfl rfl) (zp (.pickF rfl rfl) (zn ?_)))))); clear h; intro a w h
  change Code.wp _ _ _ _ _
  refine cond_split h rfl (fun hc111 => (by exfalso; exact natNe hc111 (by omega))) (fun hc111 => ?_)
  refine gC h (zk (zs (zs (zr (za rfl (zn (zb ?_))))))); clear h; intro a w h
  refine wp_loop_inv (fun (i : Nat) a w => i ≤ (n + 1) ∧ St 219 S w0 [(0, .int .i64 ((n : Nat) : Int)), (3, .pointer (some ⟨b3, 0, none⟩)), (5, .pointer (some ⟨b5, 0, none⟩)), (7, .int .i64 ((i : Nat) : Int))] [(b5, .cells (Value.cells (.agg #[.slice (some ⟨B3, O3, none⟩) ((lstT (cotA n) (n + 1)).length) c3, .slice (some ⟨B4, O4, none⟩) ((lstT (cotW n) (n + 1)).length) c4])) 30 (0, 0)), (b3, .cells (Value.cells (.agg #[.slice (some ⟨B1, O1, none⟩) ((latP n).length) c1, .slice (some ⟨B2, O2, none⟩) ((latW n).length) c2])) 25 (0, 0))] [Row (some ⟨B4, O4, none⟩) (cellsOf encQ (lstT (cotW n) (n + 1))), Row (some ⟨B3, O3, none⟩) (cellsOf encQ (lstT (cotA n) (n + 1))), Row (some ⟨B2, O2, none⟩) (cellsOf encQ (latW n)), Row (some ⟨B1, O1, none⟩) (cellsOf encQ (flQ (latP n))), TabF] a w) (fun i => (n + 1) - i) 0 (⟨Nat.zero_le _, by exact (h).sub (subL ⟨rfl, rfl, rfl, rfl, trivial⟩)⟩) ?_; clear h
  rintro i a w ⟨hi_i, h⟩
  refine gC h (zs (zs (zr (zm rfl (zm rfl (zp (.leq rfl rfl) (zn ?_))))))); clear h; intro a w h
  change Code.wp _ _ _ _ _
  refine cond_split h rfl (fun hc114 => ?_) (fun hc114 => ?_)
  · skip
    have hlt_i : i < (n + 1) := by have := of_decide_eq_true hc114; omega
    have hat : (lstT (cotA n) (n + 1)).getD i 0 = (((i : Nat) : Int) : Rat) / (((n : Nat) : Int) : Rat) := by rw [lstT_get _ _ (by omega)]; rfl
    refine gC h (zk (zs (zb (zs (yD mixed_YtfmbhcnanphckaaGreatDoor [0, 1, 2, 3, 4, 5, 6, 7, 8, 9, 10, 11, 12, 13, 14, 15, 16, 17, 18, 20, 19, 21, 22, 23, 24, 25, 26] (floatsOK_none (by kernel_rfl)) (yp rfl (.fieldAddr rfl (fa_30_0 _ _)) (yd rfl rfl mr Tryz.isAgg23 Tryz.sizeOf23 (rs_2_0 _ _) ?_))))))); clear h
    refine yp rfl (.move rfl) (yp rfl (.indexAddr rfl rfl (ix_23 _ _ _ _ _ (by omega))) ?_)
    refine head_loadRow rfl (by kernel_rfl) rfl mm (cells_lt (k := 5) (by decide) (fun _ => rfl) (lstT (cotA n) (n + 1)) i (by omega)) Tryz.isAgg42 Tryz.sizeOf42 (read_cells (k := 5) (fun _ => rfl) ((fun _ => rfl)) (lstT (cotA n) (n + 1)) 0 i (by omega)) (.inl rfl) (by decide) ?_
    refine yp rfl (.move rfl) (yp rfl (.move rfl) (yv [_, _] rfl rfl Tryz.call14 (C_lof ((i : Nat) : Int) ((n : Nat) : Int) (by omega) (by omega) (by omega) (by omega) (by omega)) (yp rfl (.binOp rfl rfl (fun _ => run_neQ _ _ ((lstT (cotA n) (n + 1)).getD i 0) ((((i : Nat) : Int) : Rat) / (((n : Nat) : Int) : Rat)) _)) (yp rfl (.move rfl) ?_))))
    refine head_bool (fun hc126  => (by exfalso; rw [hat] at hc126; exact absurd hc126 (by simp))) (fun hc126  => ?_)
    refine yq rfl rfl rfl (.move rfl) (yq rfl rfl rfl (.leq rfl rfl) (yq rfl rfl rfl (.move rfl) ?_))
    refine head_bool (fun hc129  => ?_) (fun hc129  => (by exfalso; have := of_decide_eq_false hc129; omega))
    refine yq rfl rfl rfl (.fieldAddr rfl (fa_30_1 _ _)) (yg rfl rfl rfl rfl mr Tryz.isAgg23 Tryz.sizeOf23 (rs_2_1 _ _) ?_)
    refine yq rfl rfl rfl (.move rfl) (yq rfl rfl rfl (.indexAddr rfl rfl (ix_23 _ _ _ _ _ (by omega))) ?_)
    refine head_loadRowG rfl rfl rfl (by kernel_rfl) rfl mm (cells_lt (k := 5) (by decide) (fun _ => rfl) (lstT (cotW n) (n + 1)) i (by omega)) Tryz.isAgg42 Tryz.sizeOf42 (read_cells (k := 5) (fun _ => rfl) ((fun _ => rfl)) (lstT (cotW n) (n + 1)) 0 i (by omega)) (.inl rfl) (by decide) ?_
    refine yq rfl rfl rfl (.move rfl) (yq rfl rfl rfl (.move rfl) ?_)
    refine head_callG rfl rfl rfl (by kernel_rfl) (vs := [_]) rfl Tryz.call16 (C_rCotes n h1 (by omega)) (by simp) (by decide) ?_; rintro v136 Ψ136 ⟨b136, o136, c136, W136, rfl, hW136, rfl⟩
    have hwl136 : W136.length = n + 1 := by have h5 := congrArg List.length hW136; rwa [List.length_map, solveQ, lstT_len] at h5
    refine yq rfl rfl rfl (.indexAddr rfl rfl (ix_51 _ _ _ _ _ (by omega))) ?_
    refine head_loadRowG rfl rfl rfl (by kernel_rfl) rfl mm (cells_lt (k := 3) (by decide) (fun _ => rfl) W136 i (by omega)) Tryz.isAgg50 Tryz.sizeOf50 (read_cells (k := 3) (fun _ => rfl) ((fun _ => rfl)) W136 FT0 i (by omega)) (.inl rfl) (by decide) ?_
    refine head_callWG rfl rfl rfl (by kernel_rfl) (vs := [_, _]) rfl Tryz.call15 (C_Same3 ((lstT (cotW n) (n + 1)).getD i 0) W136 i (by omega) (smallL_get hce.2 (by omega)).1 (smallL_get hce.2 (by omega)).2 (map_eq_get (hW136.trans hce.1) (by omega))) (by simp) (by decide) ?_
    refine yq rfl rfl rfl (.unOp rfl (un_not _)) ?_
    refine head_bool (fun hc141  => (by exfalso; exact absurd hc141 (by decide))) (fun hc141  => ?_)
    refine yq rfl rfl rfl (.pickT rfl rfl) (yp rfl (.pickF rfl rfl) (yn ?_)); intro a w h
    change Code.wp _ _ _ _ _
    refine cond_false h rfl ?_
    refine gC h (zk (zr (zm rfl (zp (Pure1.cast (v' := (.int .i64 ((i + 1 : Nat) : Int))) (.add rfl rfl) (by show Value.int _ _ = Value.int _ _; congr 1)) (za rfl (zn ?_)))))); clear h; intro a w h
    exact ⟨i + 1, ⟨by omega, (h.factsSub (by simp)).sub sA⟩, by omega⟩
  · skip
    have heq_i : (n + 1) = i := by have := of_decide_eq_false hc114; omega
    subst heq_i
    refine gC h (ze (zs (zs (zr (zm rfl (zp (.gtr rfl rfl) (zn ?_))))))); clear h; intro a w h
    change Code.wp _ _ _ _ _
    refine cond_split h rfl (fun hc145 => (by exfalso; have := of_decide_eq_true hc145; omega)) (fun hc145 => ?_)
    refine gC h (zk (zs (zr (zm rfl (zf [_] rfl Tryz.call17 (C_Points n (by omega)) ?_))))); clear h; rintro v158 Ψ158 ⟨ad158, c158, rfl, rfl⟩ a w h
    rw [cells_flI (ptsL n)] at h
    have hil := flI_len (ptsL n)
    obtain ⟨B158, O158, rfl⟩ := h.row_addr (ad := ad158) (M := List.map encn (flI (ptsL n))) mm (by intro e; have := congrArg List.length e; simp only [List.length_map, List.length_nil] at this; omega)
    refine gL h (za rfl (zn (zs (zs (zr (zp (.fieldAddr rfl (fa_25_0 _ _)) (zd rfl mr Tryz.isAgg22 Tryz.sizeOf22 (rs_2_0 _ _) ?_))))))); clear h; intro a w h
    refine gL h (zp (.builtin [_] rfl (len_slice_22 _ _ _)) (zm rfl (zp (.builtin [_] rfl (len_slice_53 _ _ _)) (zp (.neq rfl rfl) (zm rfl ?_))))); clear h; intro a w h
    refine by_bool h (fun hc165 h => (by exfalso; exact natNe hc165 (by omega))) (fun hc165 h => ?_)
    refine gL h (zq 165 rfl rfl (.fieldAddr rfl (fa_25_1 _ _)) ?_); clear h; intro a w h
    refine wpl_guard 165 h rfl rfl (op_load h rfl mr Tryz.isAgg23 Tryz.sizeOf23 (rs_2_1 _ _) (by decide) ?_); clear h; intro a h
    refine gL h (zq 165 rfl rfl (.builtin [_] rfl (len_slice_23 _ _ _)) (zq 165 rfl rfl (.move rfl) (zq 165 rfl rfl (.builtin [_] rfl (len_slice_53 _ _ _)) (zq 165 rfl rfl (.neq rfl rfl) (zp (.pickF rfl rfl) (zn ?_)))))); clear h; intro a w h
    change Code.wp _ _ _ _ _
    refine cond_split h rfl (fun hc172 => (by exfalso; exact natNe hc172 (by omega))) (fun hc172 => ?_)
    refine gC h (zk (zs (zr (za rfl (zn (zs (zs (zr (zm rfl (zp (.leq rfl rfl) (zn ?_))))))))))); clear h; intro a w h
    change Code.wp _ _ _ _ _
    refine cond_split h rfl (fun hc174 => ?_) (fun hc174 => (by exfalso; have := of_decide_eq_false hc174; omega))
    refine gC h (zr (zm rfl (zf [_] rfl Tryz.call18 (C_rLattice n h1 (by omega)) ?_))); clear h; rintro v176 Ψ176 ⟨b176, o176, c176, W176, rfl, hW176, rfl⟩ a w h
    have hwl176 : W176.length = (ptsL n).length := by have h5 := congrArg List.length hW176; rwa [List.length_map, solveQ, lstT_len] at h5
    refine gL h (za rfl (zn (zs (zs (zr (za rfl (zn (zb ?_)))))))); clear h; intro a w h
    refine wp_loop_inv (fun (j : Nat) a w => j ≤ (ptsL n).length ∧ St 219 S w0 [(0, .int .i64 ((n : Nat) : Int)), (3, .pointer (some ⟨b3, 0, none⟩)), (5, .pointer (some ⟨b5, 0, none⟩)), (7, .int .i64 (((n + 1) : Nat) : Int)), (8, .slice (some ⟨B158, O158, none⟩) ((ptsL n).length) c158), (9, .slice (some ⟨b176, o176, none⟩) W176.length c176), (10, .int .i64 ((j : Nat) : Int))] [(b5, .cells (Value.cells (.agg #[.slice (some ⟨B3, O3, none⟩) ((lstT (cotA n) (n + 1)).length) c3, .slice (some ⟨B4, O4, none⟩) ((lstT (cotW n) (n + 1)).length) c4])) 30 (0, 0)), (b3, .cells (Value.cells (.agg #[.slice (some ⟨B1, O1, none⟩) ((latP n).length) c1, .slice (some ⟨B2, O2, none⟩) ((latW n).length) c2])) 25 (0, 0))] [Row (some ⟨b176, o176, none⟩) (cellsOf encF W176), AllF W176, Row (some ⟨B158, O158, none⟩) (List.map encn (flI (ptsL n))), Row (some ⟨B4, O4, none⟩) (cellsOf encQ (lstT (cotW n) (n + 1))), Row (some ⟨B3, O3, none⟩) (cellsOf encQ (lstT (cotA n) (n + 1))), Row (some ⟨B2, O2, none⟩) (cellsOf encQ (latW n)), Row (some ⟨B1, O1, none⟩) (cellsOf encQ (flQ (latP n))), TabF] a w) (fun j => (ptsL n).length - j) 0 (⟨Nat.zero_le _, by exact (h).sub (subL ⟨rfl, rfl, rfl, rfl, rfl, rfl, rfl, trivial⟩)⟩) ?_; clear h
    rintro j a w ⟨hi_j, h⟩
    refine gC h (zs (zs (zr (zm rfl (zm rfl (zp (.builtin [_] rfl (len_slice_53 _ _ _)) (zp (.lss rfl rfl) (zn ?_)))))))); clear h; intro a w h
    change Code.wp _ _ _ _ _
    refine cond_split h rfl (fun hc180 => ?_) (fun hc180 => ?_)
    · skip
      have hlt_j : j < (ptsL n).length := by have := of_decide_eq_true hc180; omega
      have hsum := ptT n j hlt_j
      refine gC h (zk (zs (zb (zs (zs (zr (za rfl (zn (zb ?_))))))))); clear h; intro a w h
      refine wp_loop_inv (fun (k : Nat) a w => k ≤ 3 ∧ St 219 S w0 [(0, .int .i64 ((n : Nat) : Int)), (3, .pointer (some ⟨b3, 0, none⟩)), (5, .pointer (some ⟨b5, 0, none⟩)), (7, .int .i64 (((n + 1) : Nat) : Int)), (8, .slice (some ⟨B158, O158, none⟩) ((ptsL n).length) c158), (9, .slice (some ⟨b176, o176, none⟩) W176.length c176), (10, .int .i64 ((j : Nat) : Int)), (11, .int .i64 ((k : Nat) : Int))] [(b5, .cells (Value.cells (.agg #[.slice (some ⟨B3, O3, none⟩) ((lstT (cotA n) (n + 1)).length) c3, .slice (some ⟨B4, O4, none⟩) ((lstT (cotW n) (n + 1)).length) c4])) 30 (0, 0)), (b3, .cells (Value.cells (.agg #[.slice (some ⟨B1, O1, none⟩) ((latP n).length) c1, .slice (some ⟨B2, O2, none⟩) ((latW n).length) c2])) 25 (0, 0))] [Row (some ⟨b176, o176, none⟩) (cellsOf encF W176), AllF W176, Row (some ⟨B158, O158, none⟩) (List.map encn (flI (ptsL n))), Row (some ⟨B4, O4, none⟩) (cellsOf encQ (lstT (cotW n) (n + 1))), Row (some ⟨B3, O3, none⟩) (cellsOf encQ (lstT (cotA n) (n + 1))), Row (some ⟨B2, O2, none⟩) (cellsOf encQ (latW n)), Row (some ⟨B1, O1, none⟩) (cellsOf encQ (flQ (latP n))), TabF] a w) (fun k => 3 - k) 0 (⟨Nat.zero_le _, by exact (h).sub (subL ⟨rfl, rfl, rfl, rfl, rfl, rfl, rfl, rfl, trivial⟩)⟩) ?_; clear h
      rintro k a w ⟨hi_k, h⟩
      refine gC h (zs (zs (zr (zm rfl (zp (.lss rfl rfl) (zn ?_)))))); clear h; intro a w h
      change Code.wp _ _ _ _ _
      refine cond_split h rfl (fun hc184 => ?_) (fun hc184 => ?_)
      · skip
        have hlt_k : k < 3 := by have := of_decide_eq_true hc184; omega
        have hT : (flI (ptsL n)).getD (3 * j + k) 0 ≤ 12 := by
          match k, hlt_k with
          | 0, _ => omega
          | 1, _ => omega
          | 2, _ => omega
        have hpq : (flQ (latP n)).getD (3 * j + k) 0 = ((((flI (ptsL n)).getD (3 * j + k) 0 : Nat) : Int) : Rat) / (((n : Nat) : Int) : Rat) := by rw [hp1, getD_map' (fun t : Nat => (((t : Nat) : Int) : Rat) / (((n : Nat) : Int) : Rat)) _ _ 0 0 (by omega)]
        refine gC h (zk (zs (zb (zs (yD mixed_YtfmbhcnanphckaaGreatDoor [0, 1, 2, 3, 4, 5, 6, 7, 8, 9, 10, 11, 12, 13, 14, 15] (floatsOK_none (by kernel_rfl)) (yp rfl (.fieldAddr rfl (fa_25_0 _ _)) (yd rfl rfl mr Tryz.isAgg22 Tryz.sizeOf22 (rs_2_0 _ _) ?_))))))); clear h
        refine yp rfl (.move rfl) (yp rfl (.move rfl) (yp rfl (.indexAddr rfl rfl (ix_22 _ _ _ _ _ (by omega))) (yp rfl (Pure1.cast (v' := .pointer (some ⟨B1, O1 + (3 * j + k) * 5, none⟩)) (.indexAddr rfl rfl (ixv_55 _ _ _ (by omega))) (by rw [show O1 + j * 15 + k * 5 = O1 + (3 * j + k) * 5 by omega])) ?_)))
        refine head_loadRow rfl (by kernel_rfl) rfl mm (cells_lt (k := 5) (by decide) (fun _ => rfl) (flQ (latP n)) (3 * j + k) (by omega)) Tryz.isAgg42 Tryz.sizeOf42 (read_cells (k := 5) (fun _ => rfl) ((fun _ => rfl)) (flQ (latP n)) 0 (3 * j + k) (by omega)) (.inl rfl) (by decide) ?_
        refine yp rfl (.move rfl) (yp rfl (.move rfl) (yp rfl (.move rfl) (yp rfl (.indexAddr rfl rfl (ix_53 _ _ _ _ _ (by omega))) (yp rfl (Pure1.cast (v' := .pointer (some ⟨B158, O158 + (3 * j + k), none⟩)) (.indexAddr rfl rfl (ixv_56 _ _ _ (by omega))) (by rw [show O158 + j * 3 + k * 1 = O158 + (3 * j + k) by omega])) ?_))))
        refine head_loadRow rfl (by kernel_rfl) rfl mm (by rw [List.length_map]; omega) Tryz.isAgg3 Tryz.sizeOf3 (read_row (enc := encn) (l := (flI (ptsL n))) 0 (by omega)) (.inr rfl) (by decide) ?_
        refine yp rfl (.move rfl) (yv [_, _] rfl rfl Tryz.call14 (C_lof (((flI (ptsL n)).getD (3 * j + k) 0 : Nat) : Int) ((n : Nat) : Int) (by omega) (by omega) (by omega) (by omega) (by omega)) (yp rfl (.binOp rfl rfl (fun _ => run_neQ _ _ ((flQ (latP n)).getD (3 * j + k) 0) (((((flI (ptsL n)).getD (3 * j + k) 0 : Nat) : Int) : Rat) / (((n : Nat) : Int) : Rat)) _)) (yn ?_))); intro a w h
        change Code.wp _ _ _ _ _
        refine cond_split h rfl (fun hc202 => (by exfalso; rw [hpq] at hc202; exact absurd hc202 (by simp))) (fun hc202 => ?_)
        refine gC h (zk (zr (zm rfl (zp (Pure1.cast (v' := (.int .i64 ((k + 1 : Nat) : Int))) (.add rfl rfl) (by show Value.int _ _ = Value.int _ _; congr 1)) (za rfl (zn ?_)))))); clear h; intro a w h
        exact ⟨k + 1, ⟨by omega, h.sub sA⟩, by omega⟩
      · skip
        have heq_k : 3 = k := by have := of_decide_eq_false hc184; omega
        subst heq_k
        refine gC h (ze (zs (yD mixed_YtfmbhcnanphckaaGreatDoor [0, 1, 2, 3, 4, 5, 6, 7, 8, 9, 10, 11, 12, 13, 14] (floatsOK_none (by kernel_rfl)) (yp rfl (.move rfl) (yp rfl (.leq rfl rfl) (yp rfl (.move rfl) ?_)))))); clear h
        refine head_bool (fun hc205  => ?_) (fun hc205  => (by exfalso; have := of_decide_eq_false hc205; omega))
        refine yq rfl rfl rfl (.fieldAddr rfl (fa_25_1 _ _)) (yg rfl rfl rfl rfl mr Tryz.isAgg23 Tryz.sizeOf23 (rs_2_1 _ _) ?_)
        refine yq rfl rfl rfl (.move rfl) (yq rfl rfl rfl (.indexAddr rfl rfl (ix_23 _ _ _ _ _ (by omega))) ?_)
        refine head_loadRowG rfl rfl rfl (by kernel_rfl) rfl mm (cells_lt (k := 5) (by decide) (fun _ => rfl) (latW n) j (by omega)) Tryz.isAgg42 Tryz.sizeOf42 (read_cells (k := 5) (fun _ => rfl) ((fun _ => rfl)) (latW n) 0 j (by omega)) (.inl rfl) (by decide) ?_
        refine yq rfl rfl rfl (.move rfl) (yq rfl rfl rfl (.move rfl) (yq rfl rfl rfl (.indexAddr rfl rfl (ix_51 _ _ _ _ _ (by omega))) ?_))
        refine head_loadRowG rfl rfl rfl (by kernel_rfl) rfl mm (cells_lt (k := 3) (by decide) (fun _ => rfl) W176 j (by omega)) Tryz.isAgg50 Tryz.sizeOf50 (read_cells (k := 3) (fun _ => rfl) ((fun _ => rfl)) W176 FT0 j (by omega)) (.inl rfl) (by decide) ?_
        refine head_callWG rfl rfl rfl (by kernel_rfl) (vs := [_, _]) rfl Tryz.call15 (C_Same3 ((latW n).getD j 0) W176 j (by omega) (smallL_get hle.2 (by omega)).1 (smallL_get hle.2 (by omega)).2 (map_eq_get (hW176.trans hle.1) (by omega))) (by simp) (by decide) ?_
        refine yq rfl rfl rfl (.unOp rfl (un_not _)) ?_
        refine head_bool (fun hc216  => (by exfalso; exact absurd hc216 (by decide))) (fun hc216  => ?_)
        refine yp rfl (.pickT rfl rfl) (yn ?_); intro a w h
        change Code.wp _ _ _ _ _
        refine cond_false h rfl ?_
        refine gC h (zk (zr (zm rfl (zp (Pure1.cast (v' := (.int .i64 ((j + 1 : Nat) : Int))) (.add rfl rfl) (by show Value.int _ _ = Value.int _ _; congr 1)) (za rfl (zn ?_)))))); clear h; intro a w h
        exact ⟨j + 1, ⟨by omega, h.sub sA⟩, by omega⟩
    · skip
      have heq_j : (ptsL n).length = j := by have := of_decide_eq_false hc180; omega
      subst heq_j
      refine gC h (ze (zs (zr (zv [] rfl Tryz.call13 (C_works) (za rfl (zn (zt ?_))))))); clear h; intro a w h
      refine retV h (results1 h rfl (.tmp rfl)) ?_
      rfl

theorem C_RM_56 (n : Nat) (hlo : 5 ≤ n) (hhi : n ≤ 6) : CtrW Tryz.prog 3 [.int .i64 ((n : Nat) : Int)] [TabF] (.bool true) := by
  have h1 : 1 ≤ n := by omega
  have hla := lstT_len (cotA n) (n + 1)
  have hlw := lstT_len (cotW n) (n + 1)
  have hce := cot_eq n (by omega) h1
  obtain ⟨hp1, hp2, hp3, hp4, hp5⟩ := pts_eq n (by omega) h1
  have hfq := flQ_len (latP n)
  
  refine fn_intro Tryz.func3 rfl Tryz.ntmps3 nb ?_
  intro S w0 a hS h
  refine gC h (zs (zr (za rfl (zn (zs (zr (zm rfl (zf [_] rfl Tryz.call11 (C_Lattice n h1 (by omega) (rising_s n (by omega))) ?_)))))))); clear h; rintro v14 Ψ14 ⟨ad1, c1, ad2, c2, rfl, rfl⟩ a w h
  rw [cells_flQ (latP n)] at h
  obtain ⟨B1, O1, rfl⟩ := h.row_addr (ad := ad1) (M := cellsOf encQ (flQ (latP n))) mm (by intro e; have := congrArg List.length e; rw [cellsOf_length (k := 5) (fun _ => rfl)] at this; simp only [List.length_nil, Nat.mul_eq_zero] at this; omega)
  obtain ⟨B2, O2, rfl⟩ := h.row_addr (ad := ad2) (M := cellsOf encQ (latW n)) mm (by intro e; have := congrArg List.length e; rw [cellsOf_length (k := 5) (fun _ => rfl)] at this; simp only [List.length_nil, Nat.mul_eq_zero] at this; omega)
  refine gL h (zm rfl (zp (.extract rfl (fun _ => rfl)) (zp (.extract rfl (fun _ => rfl)) (zz Tryz.zeroValue25 fun b3 => zt' rfl rfl (st_2_0_2 _ _ _ _) uu Tryz.sizeOf25 rfl nb rfl ?_)))); clear h; intro a w h
  refine gL h (za rfl (zn (zs (zr (zm rfl (zf [_] rfl Tryz.call12 (C_Cotes n h1 (by omega) (cot_s n (by omega))) ?_)))))); clear h; rintro v19 Ψ19 ⟨ad3, c3, ad4, c4, rfl, rfl⟩ a w h
  obtain ⟨B3, O3, rfl⟩ := h.row_addr (ad := ad3) (M := cellsOf encQ (lstT (cotA n) (n + 1))) mm (by intro e; have := congrArg List.length e; rw [cellsOf_length (k := 5) (fun _ => rfl)] at this; simp only [List.length_nil, Nat.mul_eq_zero] at this; omega)
  obtain ⟨B4, O4, rfl⟩ := h.row_addr (ad := ad4) (M := cellsOf encQ (lstT (cotW n) (n + 1))) mm (by intro e; have := congrArg List.length e; rw [cellsOf_length (k := 5) (fun _ => rfl)] at this; simp only [List.length_nil, Nat.mul_eq_zero] at this; omega)
  refine gL h (zm rfl (zp (.extract rfl (fun _ => rfl)) (zp (.extract rfl (fun _ => rfl)) (zz Tryz.zeroValue30 fun b5 => zt' rfl rfl (st_2_0_2 _ _ _ _) uu Tryz.sizeOf30 rfl nb rfl ?_)))); clear h; intro a w h
  refine gL h (za rfl (zn (zs (zs (zr (zm rfl (zp (.lss rfl rfl) (zn ?_)))))))); clear h; intro a w h
  change Code.wp _ _ _ _ _
  refine cond_split h rfl (fun hc23 => (by exfalso; have := of_decide_eq_true hc23; omega)) (fun hc23 => ?_)
  refine gC h (zk (zs (zs (zr (zm rfl (zp (.eql rfl rfl) (zm rfl (zp (.gtr rfl rfl) (zp (.binOp rfl rfl (fun _ => run_bneq _ Tryz.underlying4 _ _ _ _)) (zm rfl ?_)))))))))); clear h; intro a w h
  refine by_bool h (fun hc56 h => (by exfalso; rw [show decide (((n : Nat) : Int) > 6) = false from decide_eq_false (by omega)] at hc56; exact absurd hc56 (by decide))) (fun hc56 h => ?_)
  refine gL h (zq 56 rfl rfl (.move rfl) (zq 56 rfl rfl (.eql rfl rfl) (zq 56 rfl rfl (.move rfl) (zq 56 rfl rfl (.leq rfl rfl) (zq 56 rfl rfl (.binOp rfl rfl (fun _ => run_bneq _ Tryz.underlying4 _ _ _ _)) (zp (.pickF rfl rfl) (zm rfl ?_))))))); clear h; intro a w h
  refine by_bool h (fun hc63 h => (by exfalso; rw [show decide (((n : Nat) : Int) ≤ 6) = true from decide_eq_true (by omega)] at hc63; exact absurd hc63 (by decide))) (fun hc63 h => ?_)
  refine gL h (zq 63 rfl rfl (.move rfl) (zq 63 rfl rfl (.eql rfl rfl) (zq 63 rfl rfl (.move rfl) (zq 63 rfl rfl (.gtr rfl rfl) (zq 63 rfl rfl (.binOp rfl rfl (fun _ => run_bneq _ Tryz.underlying4 _ _ _ _)) (zp (.pickF rfl rfl) (zm rfl ?_))))))); clear h; intro a w h
  refine by_bool h (fun hc70 h => (by exfalso; rw [show decide (((n : Nat) : Int) > 8) = false from decide_eq_false (by omega)] at hc70; exact absurd hc70 (by decide))) (fun hc70 h => ?_)
  refine gL h (zq 70 rfl rfl (.move rfl) (zq 70 rfl rfl (.eql rfl rfl) (zq 70 rfl rfl (.move rfl) (zq 70 rfl rfl (.leq rfl rfl) (zq 70 rfl rfl (.binOp rfl rfl (fun _ => run_bneq _ Tryz.underlying4 _ _ _ _)) (zp (.pickF rfl rfl) (zn ?_))))))); clear h; intro a w h
  change Code.wp _ _ _ _ _
  refine cond_split h rfl (fun hc76 => (by exfalso; rw [show decide (((n : Nat) : Int) ≤ 8) = true from decide_eq_true (by omega)] at hc76; exact absurd hc76 (by decide))) (fun hc76 => ?_)
  refine gC h (zk (zs (zs (zr (zm rfl (zp (.gtr rfl rfl) (zn ?_))))))); clear h; intro a w h
  change Code.wp _ _ _ _ _
  refine cond_split h rfl (fun hc78 => (by exfalso; have := of_decide_eq_true hc78; omega)) (fun hc78 => ?_)
  refine gC h (zk (zs (zs (zr (zp (.fieldAddr rfl (fa_30_0 _ _)) (zd rfl mr Tryz.isAgg23 Tryz.sizeOf23 (rs_2_0 _ _) ?_)))))); clear h; intro a w h
  refine gL h (zp (.builtin [_] rfl (len_slice_23 _ _ _)) (zm rfl (zp (Pure1.cast (v' := (.int .i64 ((n + 1 : Nat) : Int))) (.add rfl rfl) (by show Value.int _ _ = Value.int _ _; congr 1)) (zp (.neq rfl rfl) (zm rfl ?_))))); clear h; intro a w h
  refine by_bool h (fun hc104 h => (by exfalso; exact natNe hc104 (by omega))) (fun hc104 h => ?_)
  refine gL h (zq 104 rfl rfl (.fieldAddr rfl (fa_30_1 _ _)) ?_); clear h; intro a w h
  refine wpl_guard 104 h rfl rfl (op_load h rfl mr Tryz.isAgg23 Tryz.sizeOf23 (rs_2_1 _ _) (by decide) ?_); clear h; intro a h
  refine gL h (zq 104 rfl rfl (.builtin [_] rfl (len_slice_23 _ _ _)) (zq 104 rfl rfl (.move rfl) (zq 104 rfl rfl (Pure1.cast (v' := (.int .i64 ((n + 1 : Nat) : Int))) (.add rfl rfl) (by show Value.int _ _ = Value.int _ _; congr 1)) (zq 104 rfl rfl (.neq rfl rfl) (zp (.pickF rfl rfl) (zn ?_)))))); clear h; intro a w h
  change Code.wp _ _ _ _ _
  refine cond_split h rfl (fun hc111 => (by exfalso; exact natNe hc111 (by omega))) (fun hc111 => ?_)
  refine gC h (zk (zs (zs (zr (za rfl (zn (zb ?_))))))); clear h; intro a w h
  refine wp_loop_inv (fun (i : Nat) a w => i ≤ (n + 1) ∧ St 219 S w0 [(0, .int .i64 ((n : Nat) : Int)), (3, .pointer (some ⟨b3, 0, none⟩)), (5, .pointer (some ⟨b5, 0, none⟩)), (7, .int .i64 ((i : Nat) : Int))] [(b5, .cells (Value.cells (.agg #[.slice (some ⟨B3, O3, none⟩) ((lstT (cotA n) (n + 1)).length) c3, .slice (some ⟨B4, O4, none⟩) ((lstT (cotW n) (n + 1)).length) c4])) 30 (0, 0)), (b3, .cells (Value.cells (.agg #[.slice (some ⟨B1, O1, none⟩) ((latP n).length) c1, .slice (some ⟨B2, O2, none⟩) ((latW n).length) c2])) 25 (0, 0))] [Row (some ⟨B4, O4, none⟩) (cellsOf encQ (lstT (cotW n) (n + 1))), Row (some ⟨B3, O3, none⟩) (cellsOf encQ (lstT (cotA n) (n + 1))), Row (some ⟨B2, O2, none⟩) (cellsOf encQ (latW n)), Row (some ⟨B1, O1, none⟩) (cellsOf encQ (flQ (latP n))), TabF] a w) (fun i => (n + 1) - i) 0 (⟨Nat.zero_le _, by exact (h).sub (subL ⟨rfl, rfl, rfl, rfl, trivial⟩)⟩) ?_; clear h
  rintro i a w ⟨hi_i, h⟩
  refine gC h (zs (zs (zr (zm rfl (zm rfl (zp (.leq rfl rfl) (zn ?_))))))); clear h; intro a w h
  change Code.wp _ _ _ _ _
  refine cond_split h rfl (fun hc114 => ?_) (fun hc114 => ?_)
  · skip
    have hlt_i : i < (n + 1) := by have := of_decide_eq_true hc114; omega
    have hat : (lstT (cotA n) (n + 1)).getD i 0 = (((i : Nat) : Int) : Rat) / (((n : Nat) : Int) : Rat) := by rw [lstT_get _ _ (by omega)]; rfl
    refine gC h (zk (zs (zb (zs (yD mixed_YtfmbhcnanphckaaGreatDoor [0, 1, 2, 3, 4, 5, 6, 7, 8, 9, 10, 11, 12, 13, 14, 15, 16, 17, 18, 20, 19, 21, 22, 23, 24, 25, 26] (floatsOK_none (by kernel_rfl)) (yp rfl (.fieldAddr rfl (fa_30_0 _ _)) (yd rfl rfl mr Tryz.isAgg23 Tryz.sizeOf23 (rs_2_0 _ _) ?_))))))); clear h
    refine yp rfl (.move rfl) (yp rfl (.indexAddr rfl rfl (ix_23 _ _ _ _ _ (by omega))) ?_)
    refine head_loadRow rfl (by kernel_rfl) rfl mm (cells_lt (k := 5) (by decide) (fun _ => rfl) (lstT (cotA n) (n + 1)) i (by omega)) Tryz.isAgg42 Tryz.sizeOf42 (read_cells (k := 5) (fun _ => rfl) ((fun _ => rfl)) (lstT (cotA n) (n + 1)) 0 i (by omega)) (.inl rfl) (by decide) ?_
    refine yp rfl (.move rfl) (yp rfl (.move rfl) (yv [_, _] rfl rfl Tryz.call14 (C_lof ((i : Nat) : Int) ((n : Nat) : Int) (by omega) (by omega) (by omega) (by omega) (by omega)) (yp rfl (.binOp rfl rfl (fun _ => run_neQ _ _ ((lstT (cotA n) (n + 1)).getD i 0) ((((i : Nat) : Int) : Rat) / (((n : Nat) : Int) : Rat)) _)) (yp rfl (.move rfl) ?_))))
    refine head_bool (fun hc126  => (by exfalso; rw [hat] at hc126; exact absurd hc126 (by simp))) (fun hc126  => ?_)
    refine yq rfl rfl rfl (.move rfl) (yq rfl rfl rfl (.leq rfl rfl) (yq rfl rfl rfl (.move rfl) ?_))
    refine head_bool (fun hc129  => ?_) (fun hc129  => (by exfalso; have := of_decide_eq_false hc129; omega))
    refine yq rfl rfl rfl (.fieldAddr rfl (fa_30_1 _ _)) (yg rfl rfl rfl rfl mr Tryz.isAgg23 Tryz.sizeOf23 (rs_2_1 _ _) ?_)
    refine yq rfl rfl rfl (.move rfl) (yq rfl rfl rfl (.indexAddr rfl rfl (ix_23 _ _ _ _ _ (by omega))) ?_)
    refine head_loadRowG rfl rfl rfl (by kernel_rfl) rfl mm (cells_lt (k := 5) (by decide) (fun _ => rfl) (lstT (cotW n) (n + 1)) i (by omega)) Tryz.isAgg42 Tryz.sizeOf42 (read_cells (k := 5) (fun _ => rfl) ((fun _ => rfl)) (lstT (cotW n) (n + 1)) 0 i (by omega)) (.inl rfl) (by decide) ?_
    refine yq rfl rfl rfl (.move rfl) (yq rfl rfl rfl (.move rfl) ?_)
    refine head_callG rfl rfl rfl (by kernel_rfl) (vs := [_]) rfl Tryz.call16 (C_rCotes n h1 (by omega)) (by simp) (by decide) ?_; rintro v136 Ψ136 ⟨b136, o136, c136, W136, rfl, hW136, rfl⟩
    have hwl136 : W136.length = n + 1 := by have h5 := congrArg List.length hW136; rwa [List.length_map, solveQ, lstT_len] at h5
    refine yq rfl rfl rfl (.indexAddr rfl rfl (ix_51 _ _ _ _ _ (by omega))) ?_
    refine head_loadRowG rfl rfl rfl (by kernel_rfl) rfl mm (cells_lt (k := 3) (by decide) (fun _ => rfl) W136 i (by omega)) Tryz.isAgg50 Tryz.sizeOf50 (read_cells (k := 3) (fun _ => rfl) ((fun _ => rfl)) W136 FT0 i (by omega)) (.inl rfl) (by decide) ?_
    refine head_callWG rfl rfl rfl (by kernel_rfl) (vs := [_, _]) rfl Tryz.call15 (C_Same3 ((lstT (cotW n) (n + 1)).getD i 0) W136 i (by omega) (smallL_get hce.2 (by omega)).1 (smallL_get hce.2 (by omega)).2 (map_eq_get (hW136.trans hce.1) (by omega))) (by simp) (by decide) ?_
    refine yq rfl rfl rfl (.unOp rfl (un_not _)) ?_
    refine head_bool (fun hc141  => (by exfalso; exact absurd hc141 (by decide))) (fun hc141  => ?_)
    refine yq rfl rfl rfl (.pickT rfl rfl) (yp rfl (.pickF rfl rfl) (yn ?_)); intro a w h
    change Code.wp _ _ _ _ _
    refine cond_false h rfl ?_
    refine gC h (zk (zr (zm rfl (zp (Pure1.cast (v' := (.int .i64 ((i + 1 : Nat) : Int))) (.add rfl rfl) (by show Value.int _ _ = Value.int _ _; congr 1)) (za rfl (zn ?_)))))); clear h; intro a w h
    exact ⟨i + 1, ⟨by omega, (h.factsSub (by simp)).sub sA⟩, by omega⟩
  · skip
    have heq_i : (n + 1) = i := by have := of_decide_eq_false hc114; omega
    subst heq_i
    refine gC h (ze (zs (zs (zr (zm rfl (zp (.gtr rfl rfl) (zn ?_))))))); clear h; intro a w h
    change Code.wp _ _ _ _ _
    refine cond_split h rfl (fun hc145 => (by exfalso; have := of_decide_eq_true hc145; omega)) (fun hc145 => ?_)
    refine gC h (zk (zs (zr (zm rfl (zf [_] rfl Tryz.call17 (C_Points n (by omega)) ?_))))); clear h; rintro v158 Ψ158 ⟨ad158, c158, rfl, rfl⟩ a w h
    rw [cells_flI (ptsL n)] at h
    have hil := flI_len (ptsL n)
    obtain ⟨B158, O158, rfl⟩ := h.row_addr (ad := ad158) (M := List.map encn (flI (ptsL n))) mm (by intro e; have := congrArg List.length e; simp only [List.length_map, List.length_nil] at this; omega)
    refine gL h (za rfl (zn (zs (zs (zr (zp (.fieldAddr rfl (fa_25_0 _ _)) (zd rfl mr Tryz.isAgg22 Tryz.sizeOf22 (rs_2_0 _ _) ?_))))))); clear h; intro a w h
    refine gL h (zp (.builtin [_] rfl (len_slice_22 _ _ _)) (zm rfl (zp (.builtin [_] rfl (len_slice_53 _ _ _)) (zp (.neq rfl rfl) (zm rfl ?_))))); clear h; intro a w h
    refine by_bool h (fun hc165 h => (by exfalso; exact natNe hc165 (by omega))) (fun hc165 h => ?_)
    refine gL h (zq 165 rfl rfl (.fieldAddr rfl (fa_25_1 _ _)) ?_); clear h; intro a w h
    refine wpl_guard 165 h rfl rfl (op_load h rfl mr Tryz.isAgg23 Tryz.sizeOf23 (rs_2_1 _ _) (by decide) ?_); clear h; intro a h
    refine gL h (zq 165 rfl rfl (.builtin [_] rfl (len_slice_23 _ _ _)) (zq 165 rfl rfl (.move rfl) (zq 165 rfl rfl (.builtin [_] rfl (len_slice_53 _ _ _)) (zq 165 rfl rfl (.neq rfl rfl) (zp (.pickF rfl rfl) (zn ?_)))))); clear h; intro a w h
    change Code.wp _ _ _ _ _
    refine cond_split h rfl (fun hc172 => (by exfalso; exact natNe hc172 (by omega))) (fun hc172 => ?_)
    refine gC h (zk (zs (zr (za rfl (zn (zs (zs (zr (zm rfl (zp (.leq rfl rfl) (zn ?_))))))))))); clear h; intro a w h
    change Code.wp _ _ _ _ _
    refine cond_split h rfl (fun hc174 => (by exfalso; have := of_decide_eq_true hc174; omega)) (fun hc174 => ?_)
    refine gC h (zk (zs (zs (zr (za rfl (zn (zb ?_))))))); clear h; intro a w h
    refine wp_loop_inv (fun (j : Nat) a w => j ≤ (ptsL n).length ∧ St 219 S w0 [(0, .int .i64 ((n : Nat) : Int)), (3, .pointer (some ⟨b3, 0, none⟩)), (5, .pointer (some ⟨b5, 0, none⟩)), (7, .int .i64 (((n + 1) : Nat) : Int)), (8, .slice (some ⟨B158, O158, none⟩) ((ptsL n).length) c158), (9, .slice none 0 0), (10, .int .i64 ((j : Nat) : Int))] [(b5, .cells (Value.cells (.agg #[.slice (some ⟨B3, O3, none⟩) ((lstT (cotA n) (n + 1)).length) c3, .slice (some ⟨B4, O4, none⟩) ((lstT (cotW n) (n + 1)).length) c4])) 30 (0, 0)), (b3, .cells (Value.cells (.agg #[.slice (some ⟨B1, O1, none⟩) ((latP n).length) c1, .slice (some ⟨B2, O2, none⟩) ((latW n).length) c2])) 25 (0, 0))] [Row (some ⟨B158, O158, none⟩) (List.map encn (flI (ptsL n))), Row (some ⟨B4, O4, none⟩) (cellsOf encQ (lstT (cotW n) (n + 1))), Row (some ⟨B3, O3, none⟩) (cellsOf encQ (lstT (cotA n) (n + 1))), Row (some ⟨B2, O2, none⟩) (cellsOf encQ (latW n)), Row (some ⟨B1, O1, none⟩) (cellsOf encQ (flQ (latP n))), TabF] a w) (fun j => (ptsL n).length - j) 0 (⟨Nat.zero_le _, by exact (h).sub (subL ⟨rfl, rfl, rfl, rfl, rfl, rfl, rfl, trivial⟩)⟩) ?_; clear h
    rintro j a w ⟨hi_j, h⟩
    refine gC h (zs (zs (zr (zm rfl (zm rfl (zp (.builtin [_] rfl (len_slice_53 _ _ _)) (zp (.lss rfl rfl) (zn ?_)))))))); clear h; intro a w h
    change Code.wp _ _ _ _ _
    refine cond_split h rfl (fun hc180 => ?_) (fun hc180 => ?_)
    · skip
      have hlt_j : j < (ptsL n).length := by have := of_decide_eq_true hc180; omega
      have hsum := ptT n j hlt_j
      refine gC h (zk (zs (zb (zs (zs (zr (za rfl (zn (zb ?_))))))))); clear h; intro a w h
      refine wp_loop_inv (fun (k : Nat) a w => k ≤ 3 ∧ St 219 S w0 [(0, .int .i64 ((n : Nat) : Int)), (3, .pointer (some ⟨b3, 0, none⟩)), (5, .pointer (some ⟨b5, 0, none⟩)), (7, .int .i64 (((n + 1) : Nat) : Int)), (8, .slice (some ⟨B158, O158, none⟩) ((ptsL n).length) c158), (9, .slice none 0 0), (10, .int .i64 ((j : Nat) : Int)), (11, .int .i64 ((k : Nat) : Int))] [(b5, .cells (Value.cells (.agg #[.slice (some ⟨B3, O3, none⟩) ((lstT (cotA n) (n + 1)).length) c3, .slice (some ⟨B4, O4, none⟩) ((lstT (cotW n) (n + 1)).length) c4])) 30 (0, 0)), (b3, .cells (Value.cells (.agg #[.slice (some ⟨B1, O1, none⟩) ((latP n).length) c1, .slice (some ⟨B2, O2, none⟩) ((latW n).length) c2])) 25 (0, 0))] [Row (some ⟨B158, O158, none⟩) (List.map encn (flI (ptsL n))), Row (some ⟨B4, O4, none⟩) (cellsOf encQ (lstT (cotW n) (n + 1))), Row (some ⟨B3, O3, none⟩) (cellsOf encQ (lstT (cotA n) (n + 1))), Row (some ⟨B2, O2, none⟩) (cellsOf encQ (latW n)), Row (some ⟨B1, O1, none⟩) (cellsOf encQ (flQ (latP n))), TabF] a w) (fun k => 3 - k) 0 (⟨Nat.zero_le _, by exact (h).sub (subL ⟨rfl, rfl, rfl, rfl, rfl, rfl, rfl, rfl, trivial⟩)⟩) ?_; clear h
      rintro k a w ⟨hi_k, h⟩
      refine gC h (zs (zs (zr (zm rfl (zp (.lss rfl rfl) (zn ?_)))))); clear h; intro a w h
      change Code.wp _ _ _ _ _
      refine cond_split h rfl (fun hc184 => ?_) (fun hc184 => ?_)
      · skip
        have hlt_k : k < 3 := by have := of_decide_eq_true hc184; omega
        have hT : (flI (ptsL n)).getD (3 * j + k) 0 ≤ 12 := by
          match k, hlt_k with
          | 0, _ => omega
          | 1, _ => omega
          | 2, _ => omega
        have hpq : (flQ (latP n)).getD (3 * j + k) 0 = ((((flI (ptsL n)).getD (3 * j + k) 0 : Nat) : Int) : Rat) / (((n : Nat) : Int) : Rat) := by rw [hp1, getD_map' (fun t : Nat => (((t : Nat) : Int) : Rat) / (((n : Nat) : Int) : Rat)) _ _ 0 0 (by omega)]
        refine gC h (zk (zs (zb (zs (yD mixed_YtfmbhcnanphckaaGreatDoor [0, 1, 2, 3, 4, 5, 6, 7, 8, 9, 10, 11, 12, 13, 14, 15] (floatsOK_none (by kernel_rfl)) (yp rfl (.fieldAddr rfl (fa_25_0 _ _)) (yd rfl rfl mr Tryz.isAgg22 Tryz.sizeOf22 (rs_2_0 _ _) ?_))))))); clear h
        refine yp rfl (.move rfl) (yp rfl (.move rfl) (yp rfl (.indexAddr rfl rfl (ix_22 _ _ _ _ _ (by omega))) (yp rfl (Pure1.cast (v' := .pointer (some ⟨B1, O1 + (3 * j + k) * 5, none⟩)) (.indexAddr rfl rfl (ixv_55 _ _ _ (by omega))) (by rw [show O1 + j * 15 + k * 5 = O1 + (3 * j + k) * 5 by omega])) ?_)))
        refine head_loadRow rfl (by kernel_rfl) rfl mm (cells_lt (k := 5) (by decide) (fun _ => rfl) (flQ (latP n)) (3 * j + k) (by omega)) Tryz.isAgg42 Tryz.sizeOf42 (read_cells (k := 5) (fun _ => rfl) ((fun _ => rfl)) (flQ (latP n)) 0 (3 * j + k) (by omega)) (.inl rfl) (by decide) ?_
        refine yp rfl (.move rfl) (yp rfl (.move rfl) (yp rfl (.move rfl) (yp rfl (.indexAddr rfl rfl (ix_53 _ _ _ _ _ (by omega))) (yp rfl (Pure1.cast (v' := .pointer (some ⟨B158, O158 + (3 * j + k), none⟩)) (.indexAddr rfl rfl (ixv_56 _ _ _ (by omega))) (by rw [show O158 + j * 3 + k * 1 = O158 + (3 * j + k) by omega])) ?_))))
        refine head_loadRow rfl (by kernel_rfl) rfl mm (by rw [List.length_map]; omega) Tryz.isAgg3 Tryz.sizeOf3 (read_row (enc := encn) (l := (flI (ptsL n))) 0 (by omega)) (.inr rfl) (by decide) ?_
        refine yp rfl (.move rfl) (yv [_, _] rfl rfl Tryz.call14 (C_lof (((flI (ptsL n)).getD (3 * j + k) 0 : Nat) : Int) ((n : Nat) : Int) (by omega) (by omega) (by omega) (by omega) (by omega)) (yp rfl (.binOp rfl rfl (fun _ => run_neQ _ _ ((flQ (latP n)).getD (3 * j + k) 0) (((((flI (ptsL n)).getD (3 * j + k) 0 : Nat) : Int) : Rat) / (((n : Nat) : Int) : Rat)) _)) (yn ?_))); intro a w h
        change Code.wp _ _ _ _ _
        refine cond_split h rfl (fun hc202 => (by exfalso; rw [hpq] at hc202; exact absurd hc202 (by simp))) (fun hc202 => ?_)
        refine gC h (zk (zr (zm rfl (zp (Pure1.cast (v' := (.int .i64 ((k + 1 : Nat) : Int))) (.add rfl rfl) (by show Value.int _ _ = Value.int _ _; congr 1)) (za rfl (zn ?_)))))); clear h; intro a w h
        exact ⟨k + 1, ⟨by omega, h.sub sA⟩, by omega⟩
      · skip
        have heq_k : 3 = k := by have := of_decide_eq_false hc184; omega
        subst heq_k
        refine gC h (ze (zs (yD mixed_YtfmbhcnanphckaaGreatDoor [0, 1, 2, 3, 4, 5, 6, 7, 8, 9, 10, 11, 12, 13, 14] (floatsOK_none (by kernel_rfl)) (yp rfl (.move rfl) (yp rfl (.leq rfl rfl) (yp rfl (.move rfl) ?_)))))); clear h
        refine head_bool (fun hc205  => (by exfalso; have := of_decide_eq_true hc205; omega)) (fun hc205  => ?_)
        refine yo 205 rfl rfl rfl rfl (yo 205 rfl rfl rfl rfl (yo 205 rfl rfl rfl rfl (yo 205 rfl rfl rfl rfl (yo 205 rfl rfl rfl rfl (yo 205 rfl rfl rfl rfl (yo 205 rfl rfl rfl rfl (yo 205 rfl rfl rfl rfl (yo 205 rfl rfl rfl rfl (yo 205 rfl rfl rfl rfl (yo 205 rfl rfl rfl rfl (yp rfl (.pickF rfl rfl) (yn ?_)))))))))))); intro a w h
        change Code.wp _ _ _ _ _
        refine cond_false h rfl ?_
        refine gC h (zk (zr (zm rfl (zp (Pure1.cast (v' := (.int .i64 ((j + 1 : Nat) : Int))) (.add rfl rfl) (by show Value.int _ _ = Value.int _ _; congr 1)) (za rfl (zn ?_)))))); clear h; intro a w h
        exact ⟨j + 1, ⟨by omega, h.sub sA⟩, by omega⟩
    · skip
      have heq_j : (ptsL n).length = j := by have := of_decide_eq_false hc180; omega
      subst heq_j
      refine gC h (ze (zs (zr (zv [] rfl Tryz.call13 (C_works) (za rfl (zn (zt ?_))))))); clear h; intro a w h
      refine retV h (results1 h rfl (.tmp rfl)) ?_
      rfl

theorem C_RulesMade (n : Int) (h0 : -9223372036854775808 ≤ n) (h1 : n ≤ 9223372036854775807) : CtrW Tryz.prog 3 [.int .i64 n] [TabF] (.bool true) := by
  by_cases ha : n < 1
  · exact C_RM_low n ha
  · by_cases hb : n > 8
    · exact C_RM_high n hb h1
    · obtain ⟨m, rfl⟩ : ∃ m : Nat, n = m := ⟨n.toNat, by omega⟩
      by_cases hc : 7 ≤ m
      · exact C_RM_78 m hc (by omega)
      · by_cases hd : 5 ≤ m
        · exact C_RM_56 m hd (by omega)
        · exact C_RM_14 m (by omega) (by omega)
end Go.Proofs.YtfmbhcnanphckaaGreatDoor
