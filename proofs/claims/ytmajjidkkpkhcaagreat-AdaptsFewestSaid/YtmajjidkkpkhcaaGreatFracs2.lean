/- Written by a program of ours (gen.py) out of short specifications. By an AI agent. -/
import Derived.Test.YtmajjidkkpkhcaaGreatFracs1
import Derived.Test.YtmajjidkkpkhcaaGreatFxB
import Derived.Test.YtmajjidkkpkhcaaGreatFxZ
set_option linter.unusedVariables false
set_option linter.unusedSimpArgs false
set_option maxRecDepth 4000
namespace Go.Proofs.YtmajjidkkpkhcaaGreat
open Go Go.Proofs Go.Fx
attribute [local irreducible] Oper.wp Code.wp wpList Fx.Head wpOp
theorem fa_80_0 (b off : Nat) (w : World) : (Instr.fieldAt 80 (.pointer (some ⟨b, off, none⟩)) 0).run Tryz.prog w = .ok (.pointer (some ⟨b, off + 0, none⟩)) w := by
  simp [go_sem]
theorem len_slice_35 (a : Option Addr) (n c : Nat) (w : World) (ty : TypeId) (cs : Array Bool) : (Go.builtin .len #[35] ty cs #[.slice a n c]).run Tryz.prog w = .ok (.value (.int .i64 n)) w := by
  simp [go_sem]
theorem ix_35 (b off n c j : Nat) (h : j < n) (w : World) : (Instr.indexAt 35 (.slice (some ⟨b, off, none⟩) n c) (.int .i64 (j : Int))).run Tryz.prog w = .ok (.pointer (some ⟨b, off + j * 5, none⟩)) w := by
  simpa using indexAt_slice Tryz.runUnderlying35 Tryz.sizeOf48 b off n c j h w
theorem zeroQ (w : World) : (zeroValue 48).run Tryz.prog w = .ok (encQ 0) w := Tryz.zeroValue48 w
theorem zeroN (w : World) : (zeroValue 42).run Tryz.prog w = .ok (encN 0) w := Tryz.zeroValue42 w
theorem zeroZ (w : World) : (zeroValue 46).run Tryz.prog w = .ok (encZ 0) w := Tryz.zeroValue46 w
abbrev encP (p : Rat × Rat × Rat) : Value := .agg #[.int .u64 (lowN p.1.num.natAbs), .string (bigN p.1.num.natAbs), .bool (decide (p.1.num < 0)), .int .u64 (lowN (p.1.den - 1)), .string (bigN (p.1.den - 1)),
  .int .u64 (lowN p.2.1.num.natAbs), .string (bigN p.2.1.num.natAbs), .bool (decide (p.2.1.num < 0)), .int .u64 (lowN (p.2.1.den - 1)), .string (bigN (p.2.1.den - 1)),
  .int .u64 (lowN p.2.2.num.natAbs), .string (bigN p.2.2.num.natAbs), .bool (decide (p.2.2.num < 0)), .int .u64 (lowN (p.2.2.den - 1)), .string (bigN (p.2.2.den - 1))]
theorem encQ_iff {x y : Rat} : (lowN x.num.natAbs = lowN y.num.natAbs ∧ bigN x.num.natAbs = bigN y.num.natAbs ∧ decide (x.num < 0) = decide (y.num < 0) ∧ lowN (x.den - 1) = lowN (y.den - 1) ∧ bigN (x.den - 1) = bigN (y.den - 1)) ↔ x = y := by
  constructor
  · rintro ⟨h1, h2, h3, h4, h5⟩
    have e1 := enc_inj h1 h2
    have e2 := enc_inj h4 h5
    have := x.den_pos
    have := y.den_pos
    refine Rat.ext ?_ (by omega)
    have h3' : (x.num < 0) ↔ (y.num < 0) := decide_eq_decide.1 h3
    omega
  · rintro rfl; exact ⟨rfl, rfl, rfl, rfl, rfl⟩
theorem str_eq (n m : Nat) : ((bigN n).toList = (bigN m).toList) ↔ bigN n = bigN m := by have := toList_beq (bigN n) (bigN m); rw [Bool.eq_iff_iff] at this; simpa using this
theorem run_eqQ (X Y : Operand) (x y : Rat) (w : World) : (do eqGuard .eql 48 X Y (encQ x) (encQ y); Go.binOp .eql 48 (encQ x) (encQ y) : Sem Value).run Tryz.prog w = .ok (.bool (decide (x = y))) w := by
  simp [go_sem]
  have hq := @encQ_iff x y
  rw [decide_eq_decide] at hq
  simp only [← str_eq] at hq
  by_cases e : x = y
  · obtain ⟨h1, h2, h3, h4, h5⟩ := hq.2 e
    rw [if_pos h1, if_pos h2, if_pos h3, if_pos h4, if_pos h5]; simp [e]
  · rw [show decide (x = y) = false from by simp [e]]
    (repeat' split) <;> first | rfl | (exact absurd (hq.1 ⟨‹_›, ‹_›, ‹_›, ‹_›, ‹_›⟩) e)
theorem run_neQ (X Y : Operand) (x y : Rat) (w : World) : (do eqGuard .neq 48 X Y (encQ x) (encQ y); Go.binOp .neq 48 (encQ x) (encQ y) : Sem Value).run Tryz.prog w = .ok (.bool (!decide (x = y))) w := by
  simp [go_sem]
  have hq := @encQ_iff x y
  rw [decide_eq_decide] at hq
  simp only [← str_eq] at hq
  by_cases e : x = y
  · obtain ⟨h1, h2, h3, h4, h5⟩ := hq.2 e
    rw [if_pos h1, if_pos h2, if_pos h3, if_pos h4, if_pos h5]; simp [e]
  · rw [show decide (x = y) = false from by simp [e]]
    (repeat' split) <;> first | rfl | (exact absurd (hq.1 ⟨‹_›, ‹_›, ‹_›, ‹_›, ‹_›⟩) e)
theorem nestQ {α : Type} (x y : Rat) (A B : α) : (if lowN x.num.natAbs = lowN y.num.natAbs then if (bigN x.num.natAbs).toList = (bigN y.num.natAbs).toList then if x.num < 0 ↔ y.num < 0 then if lowN (x.den - 1) = lowN (y.den - 1) then
    if (bigN (x.den - 1)).toList = (bigN (y.den - 1)).toList then A else B else B else B else B else B) = if x = y then A else B := by
  have hq := @encQ_iff x y
  rw [decide_eq_decide] at hq
  simp only [← str_eq] at hq
  by_cases e : x = y
  · obtain ⟨h1, h2, h3, h4, h5⟩ := hq.2 e
    rw [if_pos h1, if_pos h2, if_pos h3, if_pos h4, if_pos h5, if_pos e]
  · rw [if_neg e]
    (repeat' split) <;> first | rfl | (exact absurd (hq.1 ⟨‹_›, ‹_›, ‹_›, ‹_›, ‹_›⟩) e)
theorem eqIn9999 (x y : Rat) (w : World) : (Op.equalIn 9999 48 (encQ x) (encQ y)).run Tryz.prog w = .ok (decide (x = y)) w := by
  simp [go_sem]
  rw [nestQ]; split <;> simp [*]
theorem lenQ_neg (x : Rat) : lenQ (-x) = lenQ x := by simp [lenQ, lenZ, Rat.neg_num, Rat.neg_den]
theorem lenQ_sub (x y : Rat) : lenQ (x - y) ≤ lenQ x + lenQ y + 1 := by rw [Rat.sub_eq_add_neg]; have := lenQ_add x (-y); rw [lenQ_neg] at this; exact this
theorem lenQ_int (n : Int) (h0 : -9223372036854775808 ≤ n) (h1 : n ≤ 9223372036854775807) : lenQ ((n : Int) : Rat) ≤ 2 := by
  have : (wds n.natAbs).length ≤ 2 := wds_small (by omega)
  unfold lenQ lenZ
  rw [Rat.num_intCast, Rat.den_intCast]
  have h2 : (wds 1).length ≤ 2 := wds_small (by decide)
  omega
theorem lenQ_zero : lenQ 0 ≤ 2 := lenQ_int 0 (by omega) (by omega)
theorem lenQ_inv (y : Rat) : lenQ y⁻¹ ≤ lenQ y := by
  by_cases hy : y = 0
  · subst hy; rw [Rat.inv_zero]; exact Nat.le_refl _
  · rw [← inv_mkRat y hy]
    have h0 : y.num ≠ 0 := fun h => hy (Rat.num_eq_zero.1 h)
    have := lenQ_mkRat (sgZ (decide (y.num.sign < 0)) y.den) y.num.natAbs (by omega)
    unfold lenZ at this
    rw [sgZ_abs] at this
    unfold lenQ lenZ at *
    omega
theorem lenQ_div (x y : Rat) : lenQ (x / y) ≤ lenQ x + lenQ y := by
  rw [Rat.div_def]; have := lenQ_mul x y⁻¹; have := lenQ_inv y; omega
theorem lenQ_of (n d : Int) (h0 : -9223372036854775808 ≤ n) (h1 : n ≤ 9223372036854775807) (h2 : -9223372036854775808 ≤ d) (h3 : d ≤ 9223372036854775807) : lenQ ((n : Rat) / (d : Rat)) ≤ 4 := by
  have := lenQ_div (n : Rat) (d : Rat); have := lenQ_int n h0 h1; have := lenQ_int d h2 h3; omega
abbrev encn (k : Nat) : Value := .int .i64 (k : Int)
theorem getD_mem {α : Type} (l : List α) {i : Nat} {d : α} (h : i < l.length) : l.getD i d ∈ l := by
  simp only [List.getD, List.getElem?_eq_getElem h, Option.getD_some]; exact List.getElem_mem h
theorem foldl_take_succ {α β : Type} {f : β → α → β} (l : List α) (s : β) (i : Nat) (d : α) (h : i < l.length) : (l.take (i + 1)).foldl f s = f ((l.take i).foldl f s) (l.getD i d) := by
  rw [List.take_add_one, List.getElem?_eq_getElem h, List.foldl_append]
  simp [List.getD, List.getElem?_eq_getElem h]
theorem num_neg_lt (x : Rat) : -x.num = (-x).num := (Rat.neg_num x).symm

theorem C_QNeg (x : Rat) : CtrV Tryz.prog 49 [encQ x] (encQ (-x)) := by
  refine fn_intro Tryz.func49 rfl Tryz.ntmps49 nb ?_
  intro S w0 a hS h
  refine gC h (zs (zr (zx rfl fun b1 => zz zeroQ fun b2 => zn (zs (yD mixed_YtmajjidkkpkhcaaGreat [0, 1, 3, 4, 2, 5, 6] (floatsOK_none (by kernel_rfl)) (yp rfl (.fieldAddr rfl (fa_48_0 _ _)) (yd rfl rfl mr Tryz.isAgg46 Tryz.sizeOf46 (rd_5_0_3 _ _ _ _ _) ?_))))))); clear h
  refine yp rfl (.fieldAddr rfl (fa_48_1 _ _)) (yd rfl rfl mr Tryz.isAgg42 Tryz.sizeOf42 (rd_5_3_2 _ _ _ _ _) ?_)
  refine yv [_] rfl rfl Tryz.call82 (C_ZNeg x.num) (yp rfl (.build [(_, _), (_, _)] rfl (bd_48_0_1 _ _ _ _ _)) (yt rfl rfl rfl (st_5_0_5 _ _ _ _ _ _ _ _ _ _) uu Tryz.sizeOf48 rfl nb rfl ?_))
  refine yn (zt ?_); intro a w h
  refine retV h (results1 h rfl (.cell rfl mr Tryz.isAgg48 Tryz.sizeOf48 (rd_5_0_5 _ _ _ _ _))) ?_
  unfold encQ; rw [Rat.neg_num, Rat.neg_den]

theorem C_QSub (x y : Rat) (ha : lenQ x ≤ 10000000000) (hb : lenQ y ≤ 10000000000) : CtrV Tryz.prog 16 [encQ x, encQ y] (encQ (x - y)) := by
  refine fn_intro Tryz.func16 rfl Tryz.ntmps16 nb ?_
  intro S w0 a hS h
  refine gC h (zs (zr (zx rfl fun b2 => zx rfl fun b3 => zz zeroQ fun b4 => zn (zs (yD mixed_YtmajjidkkpkhcaaGreat [0, 1, 2, 3, 4] (floatsOK_none (by kernel_rfl)) (yd rfl rfl mr Tryz.isAgg48 Tryz.sizeOf48 (rd_5_0_5 _ _ _ _ _) ?_)))))); clear h
  refine yd rfl rfl mr Tryz.isAgg48 Tryz.sizeOf48 (rd_5_0_5 _ _ _ _ _) ?_
  refine yv [_] rfl rfl Tryz.call49 (C_QNeg _) ?_
  have hl7 := lenQ_neg (y)
  refine yv [_, _] rfl rfl Tryz.call14 (C_QAdd _ _ (by omega) (by omega)) ?_
  have hl8 := lenQ_add (x) (-y)
  refine yt rfl rfl rfl (st_5_0_5 _ _ _ _ _ _ _ _ _ _) uu Tryz.sizeOf48 rfl nb rfl ?_
  refine yn (zt ?_); intro a w h
  refine retV h (results1 h rfl (.cell rfl mr Tryz.isAgg48 Tryz.sizeOf48 (rd_5_0_5 _ _ _ _ _))) ?_
  rw [← Rat.sub_eq_add_neg]

theorem C_tadd (b : Nat) (s x : Rat) (σ : List (Nat × Obj)) (Φ : List SPred) (hs : lenQ s ≤ 10000000000) (hx : lenQ x ≤ 10000000000) :
    CtrM Tryz.prog 45 [.pointer (some ⟨b, 0, none⟩), encQ x] ((b, .cells (encQ s).cells 80 (0, 0)) :: σ) Φ (fun v σ' Φ' => v = .tuple #[] ∧ σ' = (b, .cells (encQ (s + x)).cells 80 (0, 0)) :: σ ∧ Φ' = Φ) := by
  refine fn_introM Tryz.func45 rfl Tryz.ntmps45 nb ?_
  intro S w0 a w hS h
  refine gC h (zs (zr (zx rfl fun b3 => zn (yD mixed_YtmajjidkkpkhcaaGreat [0, 1, 2, 3, 4, 5, 6, 7, 8, 9] (floatsOK_none (by kernel_rfl)) (yp rfl (.move rfl) (yp rfl (.move rfl) (yp rfl (.nilCheck rfl) (yp rfl (.fieldAddr rfl (fa_80_0 _ _)) (yd rfl rfl mr Tryz.isAgg48 Tryz.sizeOf48 (rd_5_0_5 _ _ _ _ _) ?_))))))))); clear h
  refine yd rfl rfl mr Tryz.isAgg48 Tryz.sizeOf48 (rd_5_0_5 _ _ _ _ _) ?_
  refine yv [_, _] rfl rfl Tryz.call14 (C_QAdd _ _ (by omega) (by omega)) ?_
  have hl10 := lenQ_add (s) (x)
  refine yp rfl (.nilCheck rfl) (yp rfl (.fieldAddr rfl (fa_80_0 _ _)) (yt rfl rfl rfl (st_5_0_5 _ _ _ _ _ _ _ _ _ _) uu Tryz.sizeOf48 rfl nb rfl ?_))
  refine yn ?_; intro a w h
  refine endM h (results0 rfl) ⟨rfl, rfl, rfl⟩ (List.sublist_cons_self _ _) (fun _ h => h)

theorem C_each_add (b : Nat) (s : Rat) (ad : Option Addr) (c : Nat) (l : List Rat) (σ : List (Nat × Obj)) (Φ : List SPred) (hn : l.length ≤ 1000000) (hs : lenQ s ≤ 1000000) (hx : ∀ x ∈ l, lenQ x ≤ 1000) (hR : Row ad (cellsOf encQ l) ∈ Φ) :
    CtrM Tryz.prog 44 [.func (.func 45) #[.pointer (some ⟨b, 0, none⟩)] #[], .slice ad l.length c] ((b, .cells (encQ s).cells 80 (0, 0)) :: σ) Φ (fun v σ' Φ' => v = .tuple #[] ∧ σ' = (b, .cells (encQ (l.foldl (· + ·) s)).cells 80 (0, 0)) :: σ ∧ Φ' = Φ) := by
  refine fn_introM Tryz.func44 rfl Tryz.ntmps44 nb ?_
  intro S w0 a w hS h
  refine gC h (zs (zr (zm rfl (zp (.builtin [_] rfl (len_slice_35 _ _ _)) (zm rfl (zn (zb ?_))))))); clear h; intro a w h
  refine wp_loop_inv (fun (i : Nat) a w => i ≤ l.length ∧ (lenQ ((l.take i).foldl (· + ·) s) ≤ 1000000 + 1001 * i) ∧ St 16 S w0 [(0, .func (.func 45) #[.pointer (some ⟨b, 0, none⟩)] #[]), (6, .slice ad l.length c), (7, .int .i64 ((l.length : Nat) : Int)), (8, .int .i64 ((i : Nat) : Int))] ((b, .cells (Value.cells (encQ ((l.take i).foldl (· + ·) s))) 80 (0, 0)) :: σ) (Φ) a w) (fun i => l.length - i) 0 (⟨Nat.zero_le _, by simpa using hs, by exact (h).sub (subL ⟨rfl, rfl, rfl, rfl, trivial⟩)⟩) ?_; clear h
  rintro i a w ⟨hi_i, hinv_i, h⟩
  refine gC h (zs (zr (zp (.lss rfl rfl) (zn (zs ?_))))); clear h; intro a w h
  refine cond_split h rfl (fun hc9 => ?_) (fun hc9 => ?_)
  · skip
    have hlt_i : i < l.length := by have := of_decide_eq_true hc9; omega
    obtain ⟨B_ad, O_ad, rfl⟩ := h.row_addr (ad := ad) (M := cellsOf encQ l) mm (by intro e; have := congrArg List.length e; rw [cellsOf_length (k := 5) (fun _ => rfl)] at this; simp only [List.length_nil, Nat.mul_eq_zero] at this; omega)
    have hl := hx (l.getD i 0) (getD_mem _ hlt_i)
    have hsum := foldl_take_succ (f := (· + ·)) l s i 0 hlt_i
    have hla := lenQ_add ((l.take i).foldl (· + ·) s) (l.getD i 0)
    refine gC h (zk (zs (zb (zs (zr (zp (.indexAddr rfl rfl (ix_35 _ _ _ _ _ (by omega))) (zD rfl mm (cells_lt (k := 5) (by decide) (fun _ => rfl) l i (by omega)) Tryz.isAgg48 Tryz.sizeOf48 (read_cells (k := 5) (fun _ => rfl) ((fun _ => rfl)) l 0 i (by omega)) (.inl rfl) ?_))))))); clear h; intro a w h
    refine gL h (zz zeroQ fun b5 => zt' rfl rfl (st_5_0_5 _ _ _ _ _ _ _ _ _ _) uu Tryz.sizeOf48 rfl nb rfl ?_); clear h; intro a w h
    refine gL h (zn (zr (zm rfl (zd rfl mr Tryz.isAgg48 Tryz.sizeOf48 (rd_5_0_5 _ _ _ _ _) ?_)))); clear h; intro a w h
    refine wpl_plain (op_callMx h hS (fs := [.pointer (some ⟨b, 0, none⟩)]) (cs := []) rfl (vs := [_]) rfl Tryz.call45 (C_tadd b ((l.take i).foldl (· + ·) s) (l.getD i 0) ((b5, _) :: σ) Φ (by omega) (by omega)) (List.Perm.swap _ _ _) (by simp) (by simp) ?_); clear h; rintro v14 σ14 Ψ14 a w ⟨rfl, rfl, rfl⟩ h
    refine gL h (zn (zr (zp (Pure1.cast (v' := (.int .i64 ((i + 1 : Nat) : Int))) (.add rfl rfl) (by show Value.int _ _ = Value.int _ _; congr 1)) (zm rfl (zn ?_))))); clear h; intro a w h
    rw [← hsum] at h
    exact ⟨i + 1, ⟨by omega, by rw [hsum]; omega, (h.drop sl).sub sA⟩, by omega⟩
  · skip
    have heq_i : l.length = i := by have := of_decide_eq_false hc9; omega
    subst heq_i
    refine wp_exit ?_
    refine endM h (results0 rfl) ⟨rfl, by rw [List.take_length], rfl⟩ (List.Sublist.refl _) (fun _ h => h)

theorem C_QSum (ad : Option Addr) (c : Nat) (l : List Rat) (hn : l.length ≤ 1000000) (hx : ∀ x ∈ l, lenQ x ≤ 1000) :
    CtrW Tryz.prog 13 [.slice ad l.length c] [Row ad (cellsOf encQ l)] (encQ (l.foldl (· + ·) 0)) := by
  refine fn_intro Tryz.func13 rfl Tryz.ntmps13 nb ?_
  intro S w0 a hS h
  refine gC h (zs (zr (zz zeroQ fun b2 => zn (zs (zr (zz Tryz.zeroValue80 fun b3 => zn (zs (zr (zp (.makeFunc [_] [] rfl rfl) (zm rfl ?_)))))))))); clear h; intro a w h
  refine wpl_plain (op_callM h hS (vs := [_, _]) rfl Tryz.call44 (C_each_add b3 0 ad c l [(b2, _)] [Row ad (cellsOf encQ l)] hn (Nat.le_trans lenQ_zero (by decide)) hx List.mem_cons_self) (List.Perm.refl _) (by simp) (by simp) ?_); clear h; rintro v6 σ6 Ψ6 a w ⟨rfl, rfl, rfl⟩ h
  refine gL h (zn (zs (zr (zp (.fieldAddr rfl (fa_80_0 _ _)) (zd rfl mr Tryz.isAgg48 Tryz.sizeOf48 (rd_5_0_5 _ _ _ _ _) ?_))))); clear h; intro a w h
  refine gL h (zt' rfl rfl (st_5_0_5 _ _ _ _ _ _ _ _ _ _) uu Tryz.sizeOf48 rfl nb rfl ?_); clear h; intro a w h
  refine wpList_nil (wp_ret ?_)
  refine retV h (results1 h rfl (.cell rfl mr Tryz.isAgg48 Tryz.sizeOf48 (rd_5_0_5 _ _ _ _ _))) ?_
  rfl

theorem C_QOf (n d : Int) (h0 : -9223372036854775808 ≤ n) (h1 : n ≤ 9223372036854775807) (h2 : -9223372036854775808 ≤ d) (h3 : d ≤ 9223372036854775807) (hd : d ≠ 0) :
    CtrV Tryz.prog 18 [.int .i64 n, .int .i64 d] (.tuple #[encQ ((n : Rat) / (d : Rat)), .int .i64 0]) := by
  refine fn_intro Tryz.func18 rfl Tryz.ntmps18 nb ?_
  intro S w0 a hS h
  refine gC h (zs (zr (zz zeroQ fun b4 => za rfl (zn (zs (zr (zm rfl (zv [_] rfl Tryz.call17 (C_QInt _ (by omega) (by omega)) ?_)))))))); clear h; intro a w h
  have hl7 := lenQ_int (n) (by omega) (by omega)
  refine gL h (zm rfl (zv [_] rfl Tryz.call17 (C_QInt _ (by omega) (by omega)) ?_)); clear h; intro a w h
  have hl9 := lenQ_int (d) (by omega) (by omega)
  refine gL h (zv [_, _] rfl Tryz.call51 (C_QDiv _ _ (by exact fun e => hd (Rat.intCast_eq_zero_iff.1 e)) (by omega) (by omega)) (zp (.extract rfl (fun _ => rfl)) (zp (.extract rfl (fun _ => rfl)) (zt' rfl rfl (st_5_0_5 _ _ _ _ _ _ _ _ _ _) uu Tryz.sizeOf48 rfl nb rfl ?_)))); clear h; intro a w h
  refine gL h (za rfl (zn (zt ?_))); clear h; intro a w h
  refine retV h (results2 h rfl (.cell rfl mr Tryz.isAgg48 Tryz.sizeOf48 (rd_5_0_5 _ _ _ _ _)) (.tmp rfl)) ?_
  rfl
end Go.Proofs.YtmajjidkkpkhcaaGreat
